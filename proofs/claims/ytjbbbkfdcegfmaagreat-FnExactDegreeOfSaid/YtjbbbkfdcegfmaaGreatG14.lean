/- What is known of this seat's types and functions. -/
import Derived.Test.YtjbbbkfdcegfmaaGreatG0W
import Derived.Test.YtjbbbkfdcegfmaaGreatChecked
import Derived.KernelRfl

namespace Go.Proofs.YtjbbbkfdcegfmaaGreat
open Go Go.RowKit
theorem dc : (∀ (p : Prop) [Decidable p],(decide p = true) = p) ∧ ∀ (p : Prop) [Decidable p],(decide p = false) = ¬ p:=by simp
theorem ln : (∀ (α : Type) (a b : List α),(a ++ b).length = a.length + b.length) ∧ (∀ (α : Type) (x : α) (l : List α),(x :: l).length = l.length + 1) ∧ (∀ (α : Type),([] : List α).length = 0) ∧ (∀ (α : Type) (l : List α) (i : Nat) (x : α),(l.set i x).length = l.length) ∧ (∀ (α : Type) (n : Nat) (x : α),(List.replicate n x).length = n) ∧ (∀ n : Nat,(n : Int).toNat = n):=by simp
theorem zd {p : Prop} (h : p:=by first | omega | (simp only [ln]; omega)) : p:=h
theorem szT2 : szOf Tryz.prog 2 = some 1:=by kernel_rfl
theorem byT2 : byOf Tryz.prog 2 = some 8:=by kernel_rfl
theorem agT2 : aggT Tryz.prog 2 = some false:=by kernel_rfl
theorem unT2 : Tryz.prog.underlying 2 = some (.int .i64):=Tryz.underlying2
theorem zoT2 : zOf Tryz.prog 2 = some [.int .i64 0]:=by kernel_rfl
theorem szT3 : szOf Tryz.prog 3 = some 1:=by kernel_rfl
theorem byT3 : byOf Tryz.prog 3 = some 8:=by kernel_rfl
theorem agT3 : aggT Tryz.prog 3 = some false:=by kernel_rfl
theorem unT3 : Tryz.prog.underlying 3 = some (.int .i64):=Tryz.underlying3
theorem zoT3 : zOf Tryz.prog 3 = some [.int .i64 0]:=by kernel_rfl
theorem szT4 : szOf Tryz.prog 4 = some 1:=by kernel_rfl
theorem byT4 : byOf Tryz.prog 4 = some 1:=by kernel_rfl
theorem agT4 : aggT Tryz.prog 4 = some false:=by kernel_rfl
theorem unT4 : Tryz.prog.underlying 4 = some .bool:=Tryz.underlying4
theorem zoT4 : zOf Tryz.prog 4 = some [.bool false]:=by kernel_rfl
theorem szT5 : szOf Tryz.prog 5 = some 1:=by kernel_rfl
theorem byT5 : byOf Tryz.prog 5 = some 1:=by kernel_rfl
theorem agT5 : aggT Tryz.prog 5 = some false:=by kernel_rfl
theorem unT5 : Tryz.prog.underlying 5 = some (.int .u8):=Tryz.underlying5
theorem zoT5 : zOf Tryz.prog 5 = some [.int .u8 0]:=by kernel_rfl
theorem szT9 : szOf Tryz.prog 9 = some 1:=by kernel_rfl
theorem byT9 : byOf Tryz.prog 9 = some 16:=by kernel_rfl
theorem agT9 : aggT Tryz.prog 9 = some false:=by kernel_rfl
theorem stT9 : strT Tryz.prog 9 = true:=by kernel_rfl
theorem zoT9 : zOf Tryz.prog 9 = some [.str ⟨#[]⟩]:=by kernel_rfl
theorem szT22 : szOf Tryz.prog 22 = some 1:=by kernel_rfl
theorem byT22 : byOf Tryz.prog 22 = some 24:=by kernel_rfl
theorem agT22 : aggT Tryz.prog 22 = some false:=by kernel_rfl
theorem elT22 : elOf Tryz.prog 22 = some 89:=by kernel_rfl
theorem unT22 : Tryz.prog.underlying 22 = some (.slice 89):=Tryz.underlying22
theorem zoT22 : zOf Tryz.prog 22 = some [.nsl]:=by kernel_rfl
theorem szT24 : szOf Tryz.prog 24 = some 1:=by kernel_rfl
theorem byT24 : byOf Tryz.prog 24 = some 24:=by kernel_rfl
theorem agT24 : aggT Tryz.prog 24 = some false:=by kernel_rfl
theorem elT24 : elOf Tryz.prog 24 = some 2:=by kernel_rfl
theorem unT24 : Tryz.prog.underlying 24 = some (.slice 2):=Tryz.underlying24
theorem zoT24 : zOf Tryz.prog 24 = some [.nsl]:=by kernel_rfl
theorem szT27 : szOf Tryz.prog 27 = some 1:=by kernel_rfl
theorem byT27 : byOf Tryz.prog 27 = some 24:=by kernel_rfl
theorem agT27 : aggT Tryz.prog 27 = some false:=by kernel_rfl
theorem elT27 : elOf Tryz.prog 27 = some 85:=by kernel_rfl
theorem unT27 : Tryz.prog.underlying 27 = some (.slice 85):=Tryz.underlying27
theorem zoT27 : zOf Tryz.prog 27 = some [.nsl]:=by kernel_rfl
theorem szT37 : szOf Tryz.prog 37 = some 1:=by kernel_rfl
theorem byT37 : byOf Tryz.prog 37 = some 24:=by kernel_rfl
theorem agT37 : aggT Tryz.prog 37 = some false:=by kernel_rfl
theorem elT37 : elOf Tryz.prog 37 = some 62:=by kernel_rfl
theorem unT37 : Tryz.prog.underlying 37 = some (.slice 62):=Tryz.underlying37
theorem zoT37 : zOf Tryz.prog 37 = some [.nsl]:=by kernel_rfl
theorem szT38 : szOf Tryz.prog 38 = some 1:=by kernel_rfl
theorem byT38 : byOf Tryz.prog 38 = some 24:=by kernel_rfl
theorem agT38 : aggT Tryz.prog 38 = some false:=by kernel_rfl
theorem elT38 : elOf Tryz.prog 38 = some 81:=by kernel_rfl
theorem unT38 : Tryz.prog.underlying 38 = some (.slice 81):=Tryz.underlying38
theorem zoT38 : zOf Tryz.prog 38 = some [.nsl]:=by kernel_rfl
theorem szT40 : szOf Tryz.prog 40 = some 2:=by kernel_rfl
theorem byT40 : byOf Tryz.prog 40 = some 48:=by kernel_rfl
theorem agT40 : aggT Tryz.prog 40 = some true:=by kernel_rfl
theorem flT40 : fldsOk Tryz.prog 40 = true:=by kernel_rfl
theorem fdT40_0 : fldOf Tryz.prog 40 0 = some (0,1,37):=by kernel_rfl
theorem fdT40_1 : fldOf Tryz.prog 40 1 = some (1,1,38):=by kernel_rfl
theorem zoT40 : zOf Tryz.prog 40 = some [.nsl,.nsl]:=by kernel_rfl
theorem szT52 : szOf Tryz.prog 52 = some 1:=by kernel_rfl
theorem byT52 : byOf Tryz.prog 52 = some 8:=by kernel_rfl
theorem agT52 : aggT Tryz.prog 52 = some false:=by kernel_rfl
theorem unT52 : Tryz.prog.underlying 52 = some (.int .u64):=Tryz.underlying52
theorem zoT52 : zOf Tryz.prog 52 = some [.int .u64 0]:=by kernel_rfl
theorem szT60 : szOf Tryz.prog 60 = some 4:=by kernel_rfl
theorem byT60 : byOf Tryz.prog 60 = some 32:=by kernel_rfl
theorem agT60 : aggT Tryz.prog 60 = some true:=by kernel_rfl
theorem flT60 : fldsOk Tryz.prog 60 = true:=by kernel_rfl
theorem fdT60_0 : fldOf Tryz.prog 60 0 = some (0,1,52):=by kernel_rfl
theorem fdT60_1 : fldOf Tryz.prog 60 1 = some (1,1,52):=by kernel_rfl
theorem fdT60_2 : fldOf Tryz.prog 60 2 = some (2,1,52):=by kernel_rfl
theorem fdT60_3 : fldOf Tryz.prog 60 3 = some (3,1,52):=by kernel_rfl
theorem zoT60 : zOf Tryz.prog 60 = some [.int .u64 0,.int .u64 0,.int .u64 0,.int .u64 0]:=by kernel_rfl
theorem szT62 : szOf Tryz.prog 62 = some 12:=by kernel_rfl
theorem byT62 : byOf Tryz.prog 62 = some 96:=by kernel_rfl
theorem agT62 : aggT Tryz.prog 62 = some true:=by kernel_rfl
theorem flT62 : fldsOk Tryz.prog 62 = true:=by kernel_rfl
theorem fdT62_0 : fldOf Tryz.prog 62 0 = some (0,4,60):=by kernel_rfl
theorem fdT62_1 : fldOf Tryz.prog 62 1 = some (4,4,60):=by kernel_rfl
theorem fdT62_2 : fldOf Tryz.prog 62 2 = some (8,4,60):=by kernel_rfl
theorem zoT62 : zOf Tryz.prog 62 = some [.int .u64 0,.int .u64 0,.int .u64 0,.int .u64 0,.int .u64 0,.int .u64 0,.int .u64 0,.int .u64 0,.int .u64 0,.int .u64 0,.int .u64 0,.int .u64 0]:=by kernel_rfl
theorem szT76 : szOf Tryz.prog 76 = some 1:=by kernel_rfl
theorem byT76 : byOf Tryz.prog 76 = some 24:=by kernel_rfl
theorem agT76 : aggT Tryz.prog 76 = some false:=by kernel_rfl
theorem elT76 : elOf Tryz.prog 76 = some 107:=by kernel_rfl
theorem unT76 : Tryz.prog.underlying 76 = some (.slice 107):=Tryz.underlying76
theorem zoT76 : zOf Tryz.prog 76 = some [.nsl]:=by kernel_rfl
theorem szT78 : szOf Tryz.prog 78 = some 2:=by kernel_rfl
theorem byT78 : byOf Tryz.prog 78 = some 48:=by kernel_rfl
theorem agT78 : aggT Tryz.prog 78 = some true:=by kernel_rfl
theorem flT78 : fldsOk Tryz.prog 78 = true:=by kernel_rfl
theorem fdT78_0 : fldOf Tryz.prog 78 0 = some (0,1,76):=by kernel_rfl
theorem fdT78_1 : fldOf Tryz.prog 78 1 = some (1,1,38):=by kernel_rfl
theorem zoT78 : zOf Tryz.prog 78 = some [.nsl,.nsl]:=by kernel_rfl
theorem szT81 : szOf Tryz.prog 81 = some 3:=by kernel_rfl
theorem byT81 : byOf Tryz.prog 81 = some 40:=by kernel_rfl
theorem agT81 : aggT Tryz.prog 81 = some true:=by kernel_rfl
theorem flT81 : fldsOk Tryz.prog 81 = true:=by kernel_rfl
theorem fdT81_0 : fldOf Tryz.prog 81 0 = some (0,1,2):=by kernel_rfl
theorem fdT81_1 : fldOf Tryz.prog 81 1 = some (1,1,2):=by kernel_rfl
theorem fdT81_2 : fldOf Tryz.prog 81 2 = some (2,1,24):=by kernel_rfl
theorem zoT81 : zOf Tryz.prog 81 = some [.int .i64 0,.int .i64 0,.nsl]:=by kernel_rfl
theorem szT83 : szOf Tryz.prog 83 = some 2:=by kernel_rfl
theorem byT83 : byOf Tryz.prog 83 = some 16:=by kernel_rfl
theorem agT83 : aggT Tryz.prog 83 = some true:=by kernel_rfl
theorem flT83 : fldsOk Tryz.prog 83 = true:=by kernel_rfl
theorem fdT83_0 : fldOf Tryz.prog 83 0 = some (0,1,2):=by kernel_rfl
theorem fdT83_1 : fldOf Tryz.prog 83 1 = some (1,1,2):=by kernel_rfl
theorem zoT83 : zOf Tryz.prog 83 = some [.int .i64 0,.int .i64 0]:=by kernel_rfl
theorem szT85 : szOf Tryz.prog 85 = some 4:=by kernel_rfl
theorem byT85 : byOf Tryz.prog 85 = some 32:=by kernel_rfl
theorem agT85 : aggT Tryz.prog 85 = some true:=by kernel_rfl
theorem flT85 : fldsOk Tryz.prog 85 = true:=by kernel_rfl
theorem fdT85_0 : fldOf Tryz.prog 85 0 = some (0,2,83):=by kernel_rfl
theorem fdT85_1 : fldOf Tryz.prog 85 1 = some (2,2,83):=by kernel_rfl
theorem zoT85 : zOf Tryz.prog 85 = some [.int .i64 0,.int .i64 0,.int .i64 0,.int .i64 0]:=by kernel_rfl
theorem szT87 : szOf Tryz.prog 87 = some 2:=by kernel_rfl
theorem byT87 : byOf Tryz.prog 87 = some 16:=by kernel_rfl
theorem agT87 : aggT Tryz.prog 87 = some true:=by kernel_rfl
theorem flT87 : fldsOk Tryz.prog 87 = true:=by kernel_rfl
theorem fdT87_0 : fldOf Tryz.prog 87 0 = some (0,1,2):=by kernel_rfl
theorem fdT87_1 : fldOf Tryz.prog 87 1 = some (1,1,2):=by kernel_rfl
theorem zoT87 : zOf Tryz.prog 87 = some [.int .i64 0,.int .i64 0]:=by kernel_rfl
theorem szT89 : szOf Tryz.prog 89 = some 4:=by kernel_rfl
theorem byT89 : byOf Tryz.prog 89 = some 32:=by kernel_rfl
theorem agT89 : aggT Tryz.prog 89 = some true:=by kernel_rfl
theorem flT89 : fldsOk Tryz.prog 89 = true:=by kernel_rfl
theorem fdT89_0 : fldOf Tryz.prog 89 0 = some (0,2,87):=by kernel_rfl
theorem fdT89_1 : fldOf Tryz.prog 89 1 = some (2,2,87):=by kernel_rfl
theorem zoT89 : zOf Tryz.prog 89 = some [.int .i64 0,.int .i64 0,.int .i64 0,.int .i64 0]:=by kernel_rfl
theorem szT94 : szOf Tryz.prog 94 = some 1:=by kernel_rfl
theorem byT94 : byOf Tryz.prog 94 = some 24:=by kernel_rfl
theorem agT94 : aggT Tryz.prog 94 = some false:=by kernel_rfl
theorem elT94 : elOf Tryz.prog 94 = some 24:=by kernel_rfl
theorem unT94 : Tryz.prog.underlying 94 = some (.slice 24):=Tryz.underlying94
theorem zoT94 : zOf Tryz.prog 94 = some [.nsl]:=by kernel_rfl
theorem szT103 : szOf Tryz.prog 103 = some 1:=by kernel_rfl
theorem byT103 : byOf Tryz.prog 103 = some 24:=by kernel_rfl
theorem agT103 : aggT Tryz.prog 103 = some false:=by kernel_rfl
theorem elT103 : elOf Tryz.prog 103 = some 223:=by kernel_rfl
theorem unT103 : Tryz.prog.underlying 103 = some (.slice 223):=Tryz.underlying103
theorem zoT103 : zOf Tryz.prog 103 = some [.nsl]:=by kernel_rfl
theorem szT105 : szOf Tryz.prog 105 = some 2:=by kernel_rfl
theorem byT105 : byOf Tryz.prog 105 = some 32:=by kernel_rfl
theorem agT105 : aggT Tryz.prog 105 = some true:=by kernel_rfl
theorem flT105 : fldsOk Tryz.prog 105 = true:=by kernel_rfl
theorem fdT105_0 : fldOf Tryz.prog 105 0 = some (0,1,4):=by kernel_rfl
theorem fdT105_1 : fldOf Tryz.prog 105 1 = some (1,1,103):=by kernel_rfl
theorem zoT105 : zOf Tryz.prog 105 = some [.bool false,.nsl]:=by kernel_rfl
theorem szT107 : szOf Tryz.prog 107 = some 6:=by kernel_rfl
theorem byT107 : byOf Tryz.prog 107 = some 96:=by kernel_rfl
theorem agT107 : aggT Tryz.prog 107 = some true:=by kernel_rfl
theorem flT107 : fldsOk Tryz.prog 107 = true:=by kernel_rfl
theorem fdT107_0 : fldOf Tryz.prog 107 0 = some (0,2,105):=by kernel_rfl
theorem fdT107_1 : fldOf Tryz.prog 107 1 = some (2,2,105):=by kernel_rfl
theorem fdT107_2 : fldOf Tryz.prog 107 2 = some (4,2,105):=by kernel_rfl
theorem zoT107 : zOf Tryz.prog 107 = some [.bool false,.nsl,.bool false,.nsl,.bool false,.nsl]:=by kernel_rfl
theorem szT145 : szOf Tryz.prog 145 = some 1:=by kernel_rfl
theorem byT145 : byOf Tryz.prog 145 = some 24:=by kernel_rfl
theorem agT145 : aggT Tryz.prog 145 = some false:=by kernel_rfl
theorem elT145 : elOf Tryz.prog 145 = some 148:=by kernel_rfl
theorem unT145 : Tryz.prog.underlying 145 = some (.slice 148):=Tryz.underlying145
theorem zoT145 : zOf Tryz.prog 145 = some [.nsl]:=by kernel_rfl
theorem szT148 : szOf Tryz.prog 148 = some 13:=by kernel_rfl
theorem byT148 : byOf Tryz.prog 148 = some 120:=by kernel_rfl
theorem agT148 : aggT Tryz.prog 148 = some true:=by kernel_rfl
theorem flT148 : fldsOk Tryz.prog 148 = true:=by kernel_rfl
theorem fdT148_0 : fldOf Tryz.prog 148 0 = some (0,12,62):=by kernel_rfl
theorem fdT148_1 : fldOf Tryz.prog 148 1 = some (12,1,24):=by kernel_rfl
theorem zoT148 : zOf Tryz.prog 148 = some [.int .u64 0,.int .u64 0,.int .u64 0,.int .u64 0,.int .u64 0,.int .u64 0,.int .u64 0,.int .u64 0,.int .u64 0,.int .u64 0,.int .u64 0,.int .u64 0,.nsl]:=by kernel_rfl
theorem szT149 : szOf Tryz.prog 149 = some 2:=by kernel_rfl
theorem byT149 : byOf Tryz.prog 149 = some 16:=by kernel_rfl
theorem agT149 : aggT Tryz.prog 149 = some true:=by kernel_rfl
theorem flT149 : fldsOk Tryz.prog 149 = false:=by kernel_rfl
theorem arT149 : arOf Tryz.prog 149 = some 1:=by kernel_rfl
theorem zoT149 : zOf Tryz.prog 149 = some [.int .i64 0,.int .i64 0]:=by kernel_rfl
theorem szT162 : szOf Tryz.prog 162 = some 1:=by kernel_rfl
theorem byT162 : byOf Tryz.prog 162 = some 8:=by kernel_rfl
theorem agT162 : aggT Tryz.prog 162 = some false:=by kernel_rfl
theorem szT175 : szOf Tryz.prog 175 = some 1:=by kernel_rfl
theorem byT175 : byOf Tryz.prog 175 = some 24:=by kernel_rfl
theorem agT175 : aggT Tryz.prog 175 = some false:=by kernel_rfl
theorem elT175 : elOf Tryz.prog 175 = some 3:=by kernel_rfl
theorem unT175 : Tryz.prog.underlying 175 = some (.slice 3):=Tryz.underlying175
theorem zoT175 : zOf Tryz.prog 175 = some [.nsl]:=by kernel_rfl
theorem szT188 : szOf Tryz.prog 188 = some 1:=by kernel_rfl
theorem byT188 : byOf Tryz.prog 188 = some 24:=by kernel_rfl
theorem agT188 : aggT Tryz.prog 188 = some false:=by kernel_rfl
theorem elT188 : elOf Tryz.prog 188 = some 52:=by kernel_rfl
theorem unT188 : Tryz.prog.underlying 188 = some (.slice 52):=Tryz.underlying188
theorem zoT188 : zOf Tryz.prog 188 = some [.nsl]:=by kernel_rfl
theorem szT190 : szOf Tryz.prog 190 = some 2:=by kernel_rfl
theorem byT190 : byOf Tryz.prog 190 = some 32:=by kernel_rfl
theorem agT190 : aggT Tryz.prog 190 = some true:=by kernel_rfl
theorem flT190 : fldsOk Tryz.prog 190 = true:=by kernel_rfl
theorem fdT190_0 : fldOf Tryz.prog 190 0 = some (0,1,4):=by kernel_rfl
theorem fdT190_1 : fldOf Tryz.prog 190 1 = some (1,1,188):=by kernel_rfl
theorem zoT190 : zOf Tryz.prog 190 = some [.bool false,.nsl]:=by kernel_rfl
theorem szT192 : szOf Tryz.prog 192 = some 6:=by kernel_rfl
theorem byT192 : byOf Tryz.prog 192 = some 96:=by kernel_rfl
theorem agT192 : aggT Tryz.prog 192 = some true:=by kernel_rfl
theorem flT192 : fldsOk Tryz.prog 192 = true:=by kernel_rfl
theorem fdT192_0 : fldOf Tryz.prog 192 0 = some (0,2,190):=by kernel_rfl
theorem fdT192_1 : fldOf Tryz.prog 192 1 = some (2,2,190):=by kernel_rfl
theorem fdT192_2 : fldOf Tryz.prog 192 2 = some (4,2,190):=by kernel_rfl
theorem zoT192 : zOf Tryz.prog 192 = some [.bool false,.nsl,.bool false,.nsl,.bool false,.nsl]:=by kernel_rfl
theorem szT205 : szOf Tryz.prog 205 = some 1:=by kernel_rfl
theorem byT205 : byOf Tryz.prog 205 = some 8:=by kernel_rfl
theorem agT205 : aggT Tryz.prog 205 = some false:=by kernel_rfl
theorem unT205 : Tryz.prog.underlying 205 = some (.map 62 4):=Tryz.underlying205
theorem zoT205 : zOf Tryz.prog 205 = some [.junk]:=by kernel_rfl
theorem szT216 : szOf Tryz.prog 216 = some 1:=by kernel_rfl
theorem byT216 : byOf Tryz.prog 216 = some 8:=by kernel_rfl
theorem agT216 : aggT Tryz.prog 216 = some false:=by kernel_rfl
theorem unT216 : Tryz.prog.underlying 216 = some (.int .u64):=Tryz.underlying216
theorem zoT216 : zOf Tryz.prog 216 = some [.int .u64 0]:=by kernel_rfl
theorem szT223 : szOf Tryz.prog 223 = some 1:=by kernel_rfl
theorem byT223 : byOf Tryz.prog 223 = some 4:=by kernel_rfl
theorem agT223 : aggT Tryz.prog 223 = some false:=by kernel_rfl
theorem unT223 : Tryz.prog.underlying 223 = some (.int .u32):=Tryz.underlying223
theorem zoT223 : zOf Tryz.prog 223 = some [.int .u32 0]:=by kernel_rfl
theorem szT233 : szOf Tryz.prog 233 = some 1:=by kernel_rfl
theorem byT233 : byOf Tryz.prog 233 = some 24:=by kernel_rfl
theorem agT233 : aggT Tryz.prog 233 = some false:=by kernel_rfl
theorem elT233 : elOf Tryz.prog 233 = some 190:=by kernel_rfl
theorem unT233 : Tryz.prog.underlying 233 = some (.slice 190):=Tryz.underlying233
theorem zoT233 : zOf Tryz.prog 233 = some [.nsl]:=by kernel_rfl
theorem srT22 {s : St} {e : TypeId} {k : IntKind} {l : List Int} : aSrc Tryz.prog s 22 e (Wd k l) = some (wd k l):=src_Wd' elT22
theorem srT24 {s : St} {e : TypeId} {k : IntKind} {l : List Int} : aSrc Tryz.prog s 24 e (Wd k l) = some (wd k l):=src_Wd' elT24
theorem ixT24 {s : St} {k k' : IntKind} {l : List Int} {i : Int} (h0 : 0 ≤ i) (h : i.toNat < l.length) : aIdx Tryz.prog s 24 (Wd k l) (.int k' i) = some (.ip [.int k (gt l i.toNat)]):=idx_WdD elT24 szT2 h0 h
theorem lnT24 {s : St} {k : IntKind} {l : List Int} : aBi Tryz.prog s .len #[24] [Wd k l] = some (.int .i64 l.length):=len_Wd #[24] rfl elT24
theorem srT27 {s : St} {e : TypeId} {k : IntKind} {l : List Int} : aSrc Tryz.prog s 27 e (Wd k l) = some (wd k l):=src_Wd' elT27
theorem srT37 {s : St} {e : TypeId} {k : IntKind} {l : List Int} : aSrc Tryz.prog s 37 e (Wd k l) = some (wd k l):=src_Wd' elT37
theorem srT38 {s : St} {e : TypeId} {k : IntKind} {l : List Int} : aSrc Tryz.prog s 38 e (Wd k l) = some (wd k l):=src_Wd' elT38
theorem srT76 {s : St} {e : TypeId} {k : IntKind} {l : List Int} : aSrc Tryz.prog s 76 e (Wd k l) = some (wd k l):=src_Wd' elT76
theorem srT94 {s : St} {e : TypeId} {k : IntKind} {l : List Int} : aSrc Tryz.prog s 94 e (Wd k l) = some (wd k l):=src_Wd' elT94
theorem srT103 {s : St} {e : TypeId} {k : IntKind} {l : List Int} : aSrc Tryz.prog s 103 e (Wd k l) = some (wd k l):=src_Wd' elT103
theorem ixT103 {s : St} {k k' : IntKind} {l : List Int} {i : Int} (h0 : 0 ≤ i) (h : i.toNat < l.length) : aIdx Tryz.prog s 103 (Wd k l) (.int k' i) = some (.ip [.int k (gt l i.toNat)]):=idx_WdD elT103 szT223 h0 h
theorem lnT103 {s : St} {k : IntKind} {l : List Int} : aBi Tryz.prog s .len #[103] [Wd k l] = some (.int .i64 l.length):=len_Wd #[103] rfl elT103
theorem srT145 {s : St} {e : TypeId} {k : IntKind} {l : List Int} : aSrc Tryz.prog s 145 e (Wd k l) = some (wd k l):=src_Wd' elT145
theorem srT175 {s : St} {e : TypeId} {k : IntKind} {l : List Int} : aSrc Tryz.prog s 175 e (Wd k l) = some (wd k l):=src_Wd' elT175
theorem ixT175 {s : St} {k k' : IntKind} {l : List Int} {i : Int} (h0 : 0 ≤ i) (h : i.toNat < l.length) : aIdx Tryz.prog s 175 (Wd k l) (.int k' i) = some (.ip [.int k (gt l i.toNat)]):=idx_WdD elT175 szT3 h0 h
theorem lnT175 {s : St} {k : IntKind} {l : List Int} : aBi Tryz.prog s .len #[175] [Wd k l] = some (.int .i64 l.length):=len_Wd #[175] rfl elT175
theorem srT188 {s : St} {e : TypeId} {k : IntKind} {l : List Int} : aSrc Tryz.prog s 188 e (Wd k l) = some (wd k l):=src_Wd' elT188
theorem ixT188 {s : St} {k k' : IntKind} {l : List Int} {i : Int} (h0 : 0 ≤ i) (h : i.toNat < l.length) : aIdx Tryz.prog s 188 (Wd k l) (.int k' i) = some (.ip [.int k (gt l i.toNat)]):=idx_WdD elT188 szT52 h0 h
theorem lnT188 {s : St} {k : IntKind} {l : List Int} : aBi Tryz.prog s .len #[188] [Wd k l] = some (.int .i64 l.length):=len_Wd #[188] rfl elT188
theorem srT233 {s : St} {e : TypeId} {k : IntKind} {l : List Int} : aSrc Tryz.prog s 233 e (Wd k l) = some (wd k l):=src_Wd' elT233
theorem hb2 : hasBody Tryz.prog 2 = true:=by kernel_rfl
theorem hb3 : hasBody Tryz.prog 3 = true:=by kernel_rfl
theorem hb4 : hasBody Tryz.prog 4 = true:=by kernel_rfl
theorem hb5 : hasBody Tryz.prog 5 = true:=by kernel_rfl
theorem hb15 : hasBody Tryz.prog 15 = true:=by kernel_rfl
theorem hb17 : hasBody Tryz.prog 17 = true:=by kernel_rfl
theorem hb20 : hasBody Tryz.prog 20 = true:=by kernel_rfl
theorem hb24 : hasBody Tryz.prog 24 = true:=by kernel_rfl
theorem hb25 : hasBody Tryz.prog 25 = true:=by kernel_rfl
theorem hb26 : hasBody Tryz.prog 26 = true:=by kernel_rfl
theorem hb27 : hasBody Tryz.prog 27 = true:=by kernel_rfl
theorem hb32 : hasBody Tryz.prog 32 = true:=by kernel_rfl
theorem hb57 : hasBody Tryz.prog 57 = true:=by kernel_rfl
theorem hb58 : hasBody Tryz.prog 58 = true:=by kernel_rfl
theorem hb59 : hasBody Tryz.prog 59 = true:=by kernel_rfl
theorem hb60 : hasBody Tryz.prog 60 = true:=by kernel_rfl
theorem hb61 : hasBody Tryz.prog 61 = true:=by kernel_rfl
theorem hb62 : hasBody Tryz.prog 62 = true:=by kernel_rfl
theorem hb63 : hasBody Tryz.prog 63 = true:=by kernel_rfl
theorem hb65 : hasBody Tryz.prog 65 = true:=by kernel_rfl
theorem hb66 : hasBody Tryz.prog 66 = true:=by kernel_rfl
theorem hb67 : hasBody Tryz.prog 67 = true:=by kernel_rfl
theorem hb98 : hasBody Tryz.prog 98 = true:=by kernel_rfl
theorem hb99 : hasBody Tryz.prog 99 = true:=by kernel_rfl
theorem hb100 : hasBody Tryz.prog 100 = true:=by kernel_rfl
theorem hb101 : hasBody Tryz.prog 101 = true:=by kernel_rfl
theorem hb102 : hasBody Tryz.prog 102 = true:=by kernel_rfl
theorem hb103 : hasBody Tryz.prog 103 = true:=by kernel_rfl
theorem hb104 : hasBody Tryz.prog 104 = true:=by kernel_rfl
theorem hb105 : hasBody Tryz.prog 105 = true:=by kernel_rfl
theorem hb106 : hasBody Tryz.prog 106 = true:=by kernel_rfl
theorem hb107 : hasBody Tryz.prog 107 = true:=by kernel_rfl
theorem hb108 : hasBody Tryz.prog 108 = true:=by kernel_rfl
theorem hb109 : hasBody Tryz.prog 109 = true:=by kernel_rfl
theorem hb111 : hasBody Tryz.prog 111 = true:=by kernel_rfl
theorem hb112 : hasBody Tryz.prog 112 = true:=by kernel_rfl
theorem hb113 : hasBody Tryz.prog 113 = true:=by kernel_rfl
theorem hb114 : hasBody Tryz.prog 114 = true:=by kernel_rfl
theorem hb115 : hasBody Tryz.prog 115 = true:=by kernel_rfl
theorem hb116 : hasBody Tryz.prog 116 = true:=by kernel_rfl
theorem hb117 : hasBody Tryz.prog 117 = true:=by kernel_rfl
theorem hb118 : hasBody Tryz.prog 118 = true:=by kernel_rfl
theorem hb119 : hasBody Tryz.prog 119 = true:=by kernel_rfl
theorem hb131 : hasBody Tryz.prog 131 = true:=by kernel_rfl
theorem hb132 : hasBody Tryz.prog 132 = true:=by kernel_rfl
theorem hb133 : hasBody Tryz.prog 133 = true:=by kernel_rfl
theorem hb134 : hasBody Tryz.prog 134 = true:=by kernel_rfl
theorem hb136 : hasBody Tryz.prog 136 = true:=by kernel_rfl
theorem hb138 : hasBody Tryz.prog 138 = true:=by kernel_rfl
theorem hb139 : hasBody Tryz.prog 139 = true:=by kernel_rfl
theorem hb140 : hasBody Tryz.prog 140 = true:=by kernel_rfl
theorem hb141 : hasBody Tryz.prog 141 = true:=by kernel_rfl
theorem hb142 : hasBody Tryz.prog 142 = true:=by kernel_rfl
theorem hb143 : hasBody Tryz.prog 143 = true:=by kernel_rfl
theorem hb149 : hasBody Tryz.prog 149 = true:=by kernel_rfl
theorem hb150 : hasBody Tryz.prog 150 = true:=by kernel_rfl
theorem hb151 : hasBody Tryz.prog 151 = true:=by kernel_rfl
theorem hb152 : hasBody Tryz.prog 152 = true:=by kernel_rfl
theorem hb153 : hasBody Tryz.prog 153 = true:=by kernel_rfl
theorem hb154 : hasBody Tryz.prog 154 = true:=by kernel_rfl
theorem hb155 : hasBody Tryz.prog 155 = true:=by kernel_rfl
theorem hb156 : hasBody Tryz.prog 156 = true:=by kernel_rfl
theorem hb157 : hasBody Tryz.prog 157 = true:=by kernel_rfl
theorem hb158 : hasBody Tryz.prog 158 = true:=by kernel_rfl
theorem hb159 : hasBody Tryz.prog 159 = true:=by kernel_rfl
theorem hb160 : hasBody Tryz.prog 160 = true:=by kernel_rfl
theorem hb164 : hasBody Tryz.prog 164 = true:=by kernel_rfl
theorem hb165 : hasBody Tryz.prog 165 = true:=by kernel_rfl
theorem hb166 : hasBody Tryz.prog 166 = true:=by kernel_rfl
theorem hb167 : hasBody Tryz.prog 167 = true:=by kernel_rfl
theorem hb169 : hasBody Tryz.prog 169 = true:=by kernel_rfl
theorem hb170 : hasBody Tryz.prog 170 = true:=by kernel_rfl
theorem hb171 : hasBody Tryz.prog 171 = true:=by kernel_rfl
theorem hb172 : hasBody Tryz.prog 172 = true:=by kernel_rfl
theorem hb175 : hasBody Tryz.prog 175 = true:=by kernel_rfl
theorem hb176 : hasBody Tryz.prog 176 = true:=by kernel_rfl
theorem hb177 : hasBody Tryz.prog 177 = true:=by kernel_rfl
theorem hb178 : hasBody Tryz.prog 178 = true:=by kernel_rfl
theorem hb179 : hasBody Tryz.prog 179 = true:=by kernel_rfl
theorem hb180 : hasBody Tryz.prog 180 = true:=by kernel_rfl
theorem hb181 : hasBody Tryz.prog 181 = true:=by kernel_rfl
theorem hb182 : hasBody Tryz.prog 182 = true:=by kernel_rfl
theorem hb183 : hasBody Tryz.prog 183 = true:=by kernel_rfl
theorem hb187 : hasBody Tryz.prog 187 = true:=by kernel_rfl
theorem hb188 : hasBody Tryz.prog 188 = true:=by kernel_rfl
theorem hb189 : hasBody Tryz.prog 189 = true:=by kernel_rfl
theorem hb190 : hasBody Tryz.prog 190 = true:=by kernel_rfl
theorem hb191 : hasBody Tryz.prog 191 = true:=by kernel_rfl
theorem hb192 : hasBody Tryz.prog 192 = true:=by kernel_rfl
theorem hb193 : hasBody Tryz.prog 193 = true:=by kernel_rfl
theorem hb194 : hasBody Tryz.prog 194 = true:=by kernel_rfl
theorem hb196 : hasBody Tryz.prog 196 = true:=by kernel_rfl
theorem hb197 : hasBody Tryz.prog 197 = true:=by kernel_rfl
theorem hb198 : hasBody Tryz.prog 198 = true:=by kernel_rfl
theorem hb199 : hasBody Tryz.prog 199 = true:=by kernel_rfl
theorem hb201 : hasBody Tryz.prog 201 = true:=by kernel_rfl
theorem hb212 : hasBody Tryz.prog 212 = true:=by kernel_rfl
theorem hb221 : hasBody Tryz.prog 221 = true:=by kernel_rfl
theorem hb222 : hasBody Tryz.prog 222 = true:=by kernel_rfl
theorem hb231 : hasBody Tryz.prog 231 = true:=by kernel_rfl
theorem hb232 : hasBody Tryz.prog 232 = true:=by kernel_rfl
theorem hb233 : hasBody Tryz.prog 233 = true:=by kernel_rfl
theorem hb234 : hasBody Tryz.prog 234 = true:=by kernel_rfl
theorem hb235 : hasBody Tryz.prog 235 = true:=by kernel_rfl
theorem hb236 : hasBody Tryz.prog 236 = true:=by kernel_rfl
theorem hb237 : hasBody Tryz.prog 237 = true:=by kernel_rfl
theorem hb238 : hasBody Tryz.prog 238 = true:=by kernel_rfl
theorem hb241 : hasBody Tryz.prog 241 = true:=by kernel_rfl
theorem hb242 : hasBody Tryz.prog 242 = true:=by kernel_rfl
theorem hb243 : hasBody Tryz.prog 243 = true:=by kernel_rfl
theorem hb244 : hasBody Tryz.prog 244 = true:=by kernel_rfl
theorem hb245 : hasBody Tryz.prog 245 = true:=by kernel_rfl
theorem hb265 : hasBody Tryz.prog 265 = true:=by kernel_rfl
theorem nb239 : Bodyless Tryz.prog 239 add64Entry:=⟨Tryz.f239,Tryz.func239,by kernel_rfl,by kernel_rfl,by kernel_rfl,by kernel_rfl⟩
theorem nb240 : Bodyless Tryz.prog 240 sub64Entry:=⟨Tryz.f240,Tryz.func240,by kernel_rfl,by kernel_rfl,by kernel_rfl,by kernel_rfl⟩
theorem mixT : Tryz.prog.follows .mixedOrders = true:=Tryz.checked.mixed
attribute [simp] idf_Wd' List.getElem?_cons_zero List.getElem?_cons_succ List.getElem?_toArray runOps stepOp.eq_def agd.eq_def dstOk.eq_def opVal.eq_def opNew.eq_def opSto.eq_def ev.eq_def cv.eq_def puts_some puts_none upd_ap lst.eq_def aBin.eq_def aUn.eq_def aBi_str aBi_isl aBi_osl aBi_nsl aBi_cap aBi_max aBi_min aBi_max3 aConv.eq_def aLd.eq_def aLoad.eq_def aField.eq_def aFld.eq_def aIdx_isl aIdx_osl aSlc_isl aSlc_osl aSlc_str aSlc_nsl bnd.eq_def evs_nil evs_cons aBuild.eq_def aFill splice.eq_def cells_agg cells_int cells_bool cells_str cells_nil cells_nsl cells_isl cells_osl cells_ptr cells_ip cells_fn cells_Wd one_int one_bool one_str one_nil one_nsl one_isl one_osl one_ptr one_ip one_fn one_Wd aSets hupd_eq hupd_ne wrap_i64s wrap_u64s wrap_u32s wrap_u8s wd_getD wd_set wd_len wd_replicate wd_one wd_fold fz_osl hupd_same aSix.eq_def aEqS.eq_def aEqB_bool aEqB_nsl aEqB_nil runDf.eq_def runF1 runF2 stepF.eq_def updo.eq_def hupo.eq_def opSto1.eq_def opApp.eq_def aSrc_isl aSrc_osl aSrc_nsl aSrc_int wd_app wd_app2
end Go.Proofs.YtjbbbkfdcegfmaaGreat
