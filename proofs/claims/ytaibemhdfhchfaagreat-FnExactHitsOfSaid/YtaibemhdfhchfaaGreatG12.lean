/- What is known of this seat's types and functions. -/
import Derived.Test.YtaibemhdfhchfaaGreatG0W
import Derived.Test.YtaibemhdfhchfaaGreatChecked
import Derived.KernelRfl

namespace Go.Proofs.YtaibemhdfhchfaaGreat
open Go Go.RowKit
theorem dc : (∀ (p : Prop) [Decidable p],(decide p = true) = p) ∧ ∀ (p : Prop) [Decidable p],(decide p = false) = ¬ p:=by simp
theorem ln : (∀ (α : Type) (a b : List α),(a ++ b).length = a.length + b.length) ∧ (∀ (α : Type) (x : α) (l : List α),(x :: l).length = l.length + 1) ∧ (∀ (α : Type),([] : List α).length = 0) ∧ (∀ (α : Type) (l : List α) (i : Nat) (x : α),(l.set i x).length = l.length) ∧ (∀ (α : Type) (n : Nat) (x : α),(List.replicate n x).length = n) ∧ (∀ n : Nat,(n : Int).toNat = n):=by simp
theorem szT2 : szOf Tryz.prog 2 = some 1:=by kernel_rfl
theorem byT2 : byOf Tryz.prog 2 = some 8:=by kernel_rfl
theorem agT2 : aggT Tryz.prog 2 = some false:=by kernel_rfl
theorem unT2 : Tryz.prog.underlying 2 = some (.int .i64):=Tryz.underlying2
theorem zoT2 : zOf Tryz.prog 2 = some [.int .i64 0]:=by kernel_rfl
theorem szT3 : szOf Tryz.prog 3 = some 1:=by kernel_rfl
theorem byT3 : byOf Tryz.prog 3 = some 8:=by kernel_rfl
theorem agT3 : aggT Tryz.prog 3 = some false:=by kernel_rfl
theorem unT3 : Tryz.prog.underlying 3 = some (.int .i64):=Tryz.underlying3
theorem zoT3 : zOf Tryz.prog 3 = some [.int .i64 0]:=by kernel_rfl
theorem szT4 : szOf Tryz.prog 4 = some 1:=by kernel_rfl
theorem byT4 : byOf Tryz.prog 4 = some 1:=by kernel_rfl
theorem agT4 : aggT Tryz.prog 4 = some false:=by kernel_rfl
theorem unT4 : Tryz.prog.underlying 4 = some .bool:=Tryz.underlying4
theorem zoT4 : zOf Tryz.prog 4 = some [.bool false]:=by kernel_rfl
theorem szT5 : szOf Tryz.prog 5 = some 1:=by kernel_rfl
theorem byT5 : byOf Tryz.prog 5 = some 1:=by kernel_rfl
theorem agT5 : aggT Tryz.prog 5 = some false:=by kernel_rfl
theorem unT5 : Tryz.prog.underlying 5 = some (.int .u8):=Tryz.underlying5
theorem zoT5 : zOf Tryz.prog 5 = some [.int .u8 0]:=by kernel_rfl
theorem szT9 : szOf Tryz.prog 9 = some 1:=by kernel_rfl
theorem byT9 : byOf Tryz.prog 9 = some 16:=by kernel_rfl
theorem agT9 : aggT Tryz.prog 9 = some false:=by kernel_rfl
theorem stT9 : strT Tryz.prog 9 = true:=by kernel_rfl
theorem zoT9 : zOf Tryz.prog 9 = some [.str ⟨#[]⟩]:=by kernel_rfl
theorem szT24 : szOf Tryz.prog 24 = some 1:=by kernel_rfl
theorem byT24 : byOf Tryz.prog 24 = some 24:=by kernel_rfl
theorem agT24 : aggT Tryz.prog 24 = some false:=by kernel_rfl
theorem elT24 : elOf Tryz.prog 24 = some 40:=by kernel_rfl
theorem unT24 : Tryz.prog.underlying 24 = some (.slice 40):=Tryz.underlying24
theorem zoT24 : zOf Tryz.prog 24 = some [.nsl]:=by kernel_rfl
theorem szT25 : szOf Tryz.prog 25 = some 1:=by kernel_rfl
theorem byT25 : byOf Tryz.prog 25 = some 8:=by kernel_rfl
theorem agT25 : aggT Tryz.prog 25 = some false:=by kernel_rfl
theorem unT25 : Tryz.prog.underlying 25 = some (.int .u64):=Tryz.underlying25
theorem zoT25 : zOf Tryz.prog 25 = some [.int .u64 0]:=by kernel_rfl
theorem szT27 : szOf Tryz.prog 27 = some 4:=by kernel_rfl
theorem byT27 : byOf Tryz.prog 27 = some 32:=by kernel_rfl
theorem agT27 : aggT Tryz.prog 27 = some true:=by kernel_rfl
theorem flT27 : fldsOk Tryz.prog 27 = true:=by kernel_rfl
theorem fdT27_0 : fldOf Tryz.prog 27 0 = some (0,1,25):=by kernel_rfl
theorem fdT27_1 : fldOf Tryz.prog 27 1 = some (1,1,25):=by kernel_rfl
theorem fdT27_2 : fldOf Tryz.prog 27 2 = some (2,1,25):=by kernel_rfl
theorem fdT27_3 : fldOf Tryz.prog 27 3 = some (3,1,25):=by kernel_rfl
theorem zoT27 : zOf Tryz.prog 27 = some [.int .u64 0,.int .u64 0,.int .u64 0,.int .u64 0]:=by kernel_rfl
theorem szT29 : szOf Tryz.prog 29 = some 12:=by kernel_rfl
theorem byT29 : byOf Tryz.prog 29 = some 96:=by kernel_rfl
theorem agT29 : aggT Tryz.prog 29 = some true:=by kernel_rfl
theorem flT29 : fldsOk Tryz.prog 29 = true:=by kernel_rfl
theorem fdT29_0 : fldOf Tryz.prog 29 0 = some (0,4,27):=by kernel_rfl
theorem fdT29_1 : fldOf Tryz.prog 29 1 = some (4,4,27):=by kernel_rfl
theorem fdT29_2 : fldOf Tryz.prog 29 2 = some (8,4,27):=by kernel_rfl
theorem zoT29 : zOf Tryz.prog 29 = some [.int .u64 0,.int .u64 0,.int .u64 0,.int .u64 0,.int .u64 0,.int .u64 0,.int .u64 0,.int .u64 0,.int .u64 0,.int .u64 0,.int .u64 0,.int .u64 0]:=by kernel_rfl
theorem szT32 : szOf Tryz.prog 32 = some 1:=by kernel_rfl
theorem byT32 : byOf Tryz.prog 32 = some 24:=by kernel_rfl
theorem agT32 : aggT Tryz.prog 32 = some false:=by kernel_rfl
theorem elT32 : elOf Tryz.prog 32 = some 2:=by kernel_rfl
theorem unT32 : Tryz.prog.underlying 32 = some (.slice 2):=Tryz.underlying32
theorem zoT32 : zOf Tryz.prog 32 = some [.nsl]:=by kernel_rfl
theorem szT38 : szOf Tryz.prog 38 = some 2:=by kernel_rfl
theorem byT38 : byOf Tryz.prog 38 = some 16:=by kernel_rfl
theorem agT38 : aggT Tryz.prog 38 = some true:=by kernel_rfl
theorem flT38 : fldsOk Tryz.prog 38 = true:=by kernel_rfl
theorem fdT38_0 : fldOf Tryz.prog 38 0 = some (0,1,2):=by kernel_rfl
theorem fdT38_1 : fldOf Tryz.prog 38 1 = some (1,1,2):=by kernel_rfl
theorem zoT38 : zOf Tryz.prog 38 = some [.int .i64 0,.int .i64 0]:=by kernel_rfl
theorem szT40 : szOf Tryz.prog 40 = some 4:=by kernel_rfl
theorem byT40 : byOf Tryz.prog 40 = some 32:=by kernel_rfl
theorem agT40 : aggT Tryz.prog 40 = some true:=by kernel_rfl
theorem flT40 : fldsOk Tryz.prog 40 = true:=by kernel_rfl
theorem fdT40_0 : fldOf Tryz.prog 40 0 = some (0,2,38):=by kernel_rfl
theorem fdT40_1 : fldOf Tryz.prog 40 1 = some (2,2,38):=by kernel_rfl
theorem zoT40 : zOf Tryz.prog 40 = some [.int .i64 0,.int .i64 0,.int .i64 0,.int .i64 0]:=by kernel_rfl
theorem szT41 : szOf Tryz.prog 41 = some 1:=by kernel_rfl
theorem byT41 : byOf Tryz.prog 41 = some 24:=by kernel_rfl
theorem agT41 : aggT Tryz.prog 41 = some false:=by kernel_rfl
theorem elT41 : elOf Tryz.prog 41 = some 38:=by kernel_rfl
theorem unT41 : Tryz.prog.underlying 41 = some (.slice 38):=Tryz.underlying41
theorem zoT41 : zOf Tryz.prog 41 = some [.nsl]:=by kernel_rfl
theorem szT43 : szOf Tryz.prog 43 = some 1:=by kernel_rfl
theorem byT43 : byOf Tryz.prog 43 = some 24:=by kernel_rfl
theorem agT43 : aggT Tryz.prog 43 = some true:=by kernel_rfl
theorem flT43 : fldsOk Tryz.prog 43 = true:=by kernel_rfl
theorem fdT43_0 : fldOf Tryz.prog 43 0 = some (0,1,41):=by kernel_rfl
theorem zoT43 : zOf Tryz.prog 43 = some [.nsl]:=by kernel_rfl
theorem szT51 : szOf Tryz.prog 51 = some 1:=by kernel_rfl
theorem byT51 : byOf Tryz.prog 51 = some 24:=by kernel_rfl
theorem agT51 : aggT Tryz.prog 51 = some false:=by kernel_rfl
theorem elT51 : elOf Tryz.prog 51 = some 62:=by kernel_rfl
theorem unT51 : Tryz.prog.underlying 51 = some (.slice 62):=Tryz.underlying51
theorem zoT51 : zOf Tryz.prog 51 = some [.nsl]:=by kernel_rfl
theorem szT54 : szOf Tryz.prog 54 = some 1:=by kernel_rfl
theorem byT54 : byOf Tryz.prog 54 = some 24:=by kernel_rfl
theorem agT54 : aggT Tryz.prog 54 = some false:=by kernel_rfl
theorem elT54 : elOf Tryz.prog 54 = some 60:=by kernel_rfl
theorem unT54 : Tryz.prog.underlying 54 = some (.slice 60):=Tryz.underlying54
theorem zoT54 : zOf Tryz.prog 54 = some [.nsl]:=by kernel_rfl
theorem szT60 : szOf Tryz.prog 60 = some 13:=by kernel_rfl
theorem byT60 : byOf Tryz.prog 60 = some 120:=by kernel_rfl
theorem agT60 : aggT Tryz.prog 60 = some true:=by kernel_rfl
theorem flT60 : fldsOk Tryz.prog 60 = true:=by kernel_rfl
theorem fdT60_0 : fldOf Tryz.prog 60 0 = some (0,12,29):=by kernel_rfl
theorem fdT60_1 : fldOf Tryz.prog 60 1 = some (12,1,32):=by kernel_rfl
theorem zoT60 : zOf Tryz.prog 60 = some [.int .u64 0,.int .u64 0,.int .u64 0,.int .u64 0,.int .u64 0,.int .u64 0,.int .u64 0,.int .u64 0,.int .u64 0,.int .u64 0,.int .u64 0,.int .u64 0,.nsl]:=by kernel_rfl
theorem szT62 : szOf Tryz.prog 62 = some 2:=by kernel_rfl
theorem byT62 : byOf Tryz.prog 62 = some 16:=by kernel_rfl
theorem agT62 : aggT Tryz.prog 62 = some true:=by kernel_rfl
theorem flT62 : fldsOk Tryz.prog 62 = true:=by kernel_rfl
theorem fdT62_0 : fldOf Tryz.prog 62 0 = some (0,1,2):=by kernel_rfl
theorem fdT62_1 : fldOf Tryz.prog 62 1 = some (1,1,2):=by kernel_rfl
theorem zoT62 : zOf Tryz.prog 62 = some [.int .i64 0,.int .i64 0]:=by kernel_rfl
theorem szT91 : szOf Tryz.prog 91 = some 1:=by kernel_rfl
theorem byT91 : byOf Tryz.prog 91 = some 24:=by kernel_rfl
theorem agT91 : aggT Tryz.prog 91 = some false:=by kernel_rfl
theorem elT91 : elOf Tryz.prog 91 = some 180:=by kernel_rfl
theorem unT91 : Tryz.prog.underlying 91 = some (.slice 180):=Tryz.underlying91
theorem zoT91 : zOf Tryz.prog 91 = some [.nsl]:=by kernel_rfl
theorem szT108 : szOf Tryz.prog 108 = some 1:=by kernel_rfl
theorem byT108 : byOf Tryz.prog 108 = some 24:=by kernel_rfl
theorem agT108 : aggT Tryz.prog 108 = some false:=by kernel_rfl
theorem elT108 : elOf Tryz.prog 108 = some 25:=by kernel_rfl
theorem unT108 : Tryz.prog.underlying 108 = some (.slice 25):=Tryz.underlying108
theorem zoT108 : zOf Tryz.prog 108 = some [.nsl]:=by kernel_rfl
theorem szT110 : szOf Tryz.prog 110 = some 2:=by kernel_rfl
theorem byT110 : byOf Tryz.prog 110 = some 32:=by kernel_rfl
theorem agT110 : aggT Tryz.prog 110 = some true:=by kernel_rfl
theorem flT110 : fldsOk Tryz.prog 110 = true:=by kernel_rfl
theorem fdT110_0 : fldOf Tryz.prog 110 0 = some (0,1,4):=by kernel_rfl
theorem fdT110_1 : fldOf Tryz.prog 110 1 = some (1,1,108):=by kernel_rfl
theorem zoT110 : zOf Tryz.prog 110 = some [.bool false,.nsl]:=by kernel_rfl
theorem szT112 : szOf Tryz.prog 112 = some 6:=by kernel_rfl
theorem byT112 : byOf Tryz.prog 112 = some 96:=by kernel_rfl
theorem agT112 : aggT Tryz.prog 112 = some true:=by kernel_rfl
theorem flT112 : fldsOk Tryz.prog 112 = true:=by kernel_rfl
theorem fdT112_0 : fldOf Tryz.prog 112 0 = some (0,2,110):=by kernel_rfl
theorem fdT112_1 : fldOf Tryz.prog 112 1 = some (2,2,110):=by kernel_rfl
theorem fdT112_2 : fldOf Tryz.prog 112 2 = some (4,2,110):=by kernel_rfl
theorem zoT112 : zOf Tryz.prog 112 = some [.bool false,.nsl,.bool false,.nsl,.bool false,.nsl]:=by kernel_rfl
theorem szT118 : szOf Tryz.prog 118 = some 4:=by kernel_rfl
theorem byT118 : byOf Tryz.prog 118 = some 64:=by kernel_rfl
theorem agT118 : aggT Tryz.prog 118 = some true:=by kernel_rfl
theorem flT118 : fldsOk Tryz.prog 118 = true:=by kernel_rfl
theorem fdT118_0 : fldOf Tryz.prog 118 0 = some (0,2,110):=by kernel_rfl
theorem fdT118_1 : fldOf Tryz.prog 118 1 = some (2,2,110):=by kernel_rfl
theorem zoT118 : zOf Tryz.prog 118 = some [.bool false,.nsl,.bool false,.nsl]:=by kernel_rfl
theorem szT125 : szOf Tryz.prog 125 = some 1:=by kernel_rfl
theorem byT125 : byOf Tryz.prog 125 = some 24:=by kernel_rfl
theorem agT125 : aggT Tryz.prog 125 = some false:=by kernel_rfl
theorem elT125 : elOf Tryz.prog 125 = some 271:=by kernel_rfl
theorem unT125 : Tryz.prog.underlying 125 = some (.slice 271):=Tryz.underlying125
theorem zoT125 : zOf Tryz.prog 125 = some [.nsl]:=by kernel_rfl
theorem szT127 : szOf Tryz.prog 127 = some 2:=by kernel_rfl
theorem byT127 : byOf Tryz.prog 127 = some 32:=by kernel_rfl
theorem agT127 : aggT Tryz.prog 127 = some true:=by kernel_rfl
theorem flT127 : fldsOk Tryz.prog 127 = true:=by kernel_rfl
theorem fdT127_0 : fldOf Tryz.prog 127 0 = some (0,1,4):=by kernel_rfl
theorem fdT127_1 : fldOf Tryz.prog 127 1 = some (1,1,125):=by kernel_rfl
theorem zoT127 : zOf Tryz.prog 127 = some [.bool false,.nsl]:=by kernel_rfl
theorem szT129 : szOf Tryz.prog 129 = some 6:=by kernel_rfl
theorem byT129 : byOf Tryz.prog 129 = some 96:=by kernel_rfl
theorem agT129 : aggT Tryz.prog 129 = some true:=by kernel_rfl
theorem flT129 : fldsOk Tryz.prog 129 = true:=by kernel_rfl
theorem fdT129_0 : fldOf Tryz.prog 129 0 = some (0,2,127):=by kernel_rfl
theorem fdT129_1 : fldOf Tryz.prog 129 1 = some (2,2,127):=by kernel_rfl
theorem fdT129_2 : fldOf Tryz.prog 129 2 = some (4,2,127):=by kernel_rfl
theorem zoT129 : zOf Tryz.prog 129 = some [.bool false,.nsl,.bool false,.nsl,.bool false,.nsl]:=by kernel_rfl
theorem szT163 : szOf Tryz.prog 163 = some 1:=by kernel_rfl
theorem byT163 : byOf Tryz.prog 163 = some 24:=by kernel_rfl
theorem agT163 : aggT Tryz.prog 163 = some false:=by kernel_rfl
theorem elT163 : elOf Tryz.prog 163 = some 129:=by kernel_rfl
theorem unT163 : Tryz.prog.underlying 163 = some (.slice 129):=Tryz.underlying163
theorem zoT163 : zOf Tryz.prog 163 = some [.nsl]:=by kernel_rfl
theorem szT170 : szOf Tryz.prog 170 = some 1:=by kernel_rfl
theorem byT170 : byOf Tryz.prog 170 = some 24:=by kernel_rfl
theorem agT170 : aggT Tryz.prog 170 = some false:=by kernel_rfl
theorem elT170 : elOf Tryz.prog 170 = some 178:=by kernel_rfl
theorem unT170 : Tryz.prog.underlying 170 = some (.slice 178):=Tryz.underlying170
theorem zoT170 : zOf Tryz.prog 170 = some [.nsl]:=by kernel_rfl
theorem szT172 : szOf Tryz.prog 172 = some 1:=by kernel_rfl
theorem byT172 : byOf Tryz.prog 172 = some 24:=by kernel_rfl
theorem agT172 : aggT Tryz.prog 172 = some true:=by kernel_rfl
theorem flT172 : fldsOk Tryz.prog 172 = true:=by kernel_rfl
theorem fdT172_0 : fldOf Tryz.prog 172 0 = some (0,1,170):=by kernel_rfl
theorem zoT172 : zOf Tryz.prog 172 = some [.nsl]:=by kernel_rfl
theorem szT178 : szOf Tryz.prog 178 = some 2:=by kernel_rfl
theorem byT178 : byOf Tryz.prog 178 = some 16:=by kernel_rfl
theorem agT178 : aggT Tryz.prog 178 = some true:=by kernel_rfl
theorem flT178 : fldsOk Tryz.prog 178 = true:=by kernel_rfl
theorem fdT178_0 : fldOf Tryz.prog 178 0 = some (0,1,2):=by kernel_rfl
theorem fdT178_1 : fldOf Tryz.prog 178 1 = some (1,1,2):=by kernel_rfl
theorem zoT178 : zOf Tryz.prog 178 = some [.int .i64 0,.int .i64 0]:=by kernel_rfl
theorem szT180 : szOf Tryz.prog 180 = some 4:=by kernel_rfl
theorem byT180 : byOf Tryz.prog 180 = some 32:=by kernel_rfl
theorem agT180 : aggT Tryz.prog 180 = some true:=by kernel_rfl
theorem flT180 : fldsOk Tryz.prog 180 = true:=by kernel_rfl
theorem fdT180_0 : fldOf Tryz.prog 180 0 = some (0,2,178):=by kernel_rfl
theorem fdT180_1 : fldOf Tryz.prog 180 1 = some (2,2,178):=by kernel_rfl
theorem zoT180 : zOf Tryz.prog 180 = some [.int .i64 0,.int .i64 0,.int .i64 0,.int .i64 0]:=by kernel_rfl
theorem szT188 : szOf Tryz.prog 188 = some 1:=by kernel_rfl
theorem byT188 : byOf Tryz.prog 188 = some 24:=by kernel_rfl
theorem agT188 : aggT Tryz.prog 188 = some false:=by kernel_rfl
theorem elT188 : elOf Tryz.prog 188 = some 29:=by kernel_rfl
theorem unT188 : Tryz.prog.underlying 188 = some (.slice 29):=Tryz.underlying188
theorem zoT188 : zOf Tryz.prog 188 = some [.nsl]:=by kernel_rfl
theorem szT204 : szOf Tryz.prog 204 = some 1:=by kernel_rfl
theorem byT204 : byOf Tryz.prog 204 = some 8:=by kernel_rfl
theorem agT204 : aggT Tryz.prog 204 = some false:=by kernel_rfl
theorem unT204 : Tryz.prog.underlying 204 = some (.int .u64):=Tryz.underlying204
theorem zoT204 : zOf Tryz.prog 204 = some [.int .u64 0]:=by kernel_rfl
theorem szT235 : szOf Tryz.prog 235 = some 1:=by kernel_rfl
theorem byT235 : byOf Tryz.prog 235 = some 8:=by kernel_rfl
theorem agT235 : aggT Tryz.prog 235 = some false:=by kernel_rfl
theorem unT235 : Tryz.prog.underlying 235 = some (.map 29 4):=Tryz.underlying235
theorem zoT235 : zOf Tryz.prog 235 = some [.junk]:=by kernel_rfl
theorem szT271 : szOf Tryz.prog 271 = some 1:=by kernel_rfl
theorem byT271 : byOf Tryz.prog 271 = some 4:=by kernel_rfl
theorem agT271 : aggT Tryz.prog 271 = some false:=by kernel_rfl
theorem unT271 : Tryz.prog.underlying 271 = some (.int .u32):=Tryz.underlying271
theorem zoT271 : zOf Tryz.prog 271 = some [.int .u32 0]:=by kernel_rfl
theorem szT273 : szOf Tryz.prog 273 = some 1:=by kernel_rfl
theorem byT273 : byOf Tryz.prog 273 = some 24:=by kernel_rfl
theorem agT273 : aggT Tryz.prog 273 = some false:=by kernel_rfl
theorem elT273 : elOf Tryz.prog 273 = some 110:=by kernel_rfl
theorem unT273 : Tryz.prog.underlying 273 = some (.slice 110):=Tryz.underlying273
theorem zoT273 : zOf Tryz.prog 273 = some [.nsl]:=by kernel_rfl
theorem szT292 : szOf Tryz.prog 292 = some 1:=by kernel_rfl
theorem byT292 : byOf Tryz.prog 292 = some 8:=by kernel_rfl
theorem agT292 : aggT Tryz.prog 292 = some false:=by kernel_rfl
theorem unT292 : Tryz.prog.underlying 292 = some (.int .i64):=Tryz.underlying292
theorem zoT292 : zOf Tryz.prog 292 = some [.int .i64 0]:=by kernel_rfl
theorem szT313 : szOf Tryz.prog 313 = some 1:=by kernel_rfl
theorem byT313 : byOf Tryz.prog 313 = some 8:=by kernel_rfl
theorem agT313 : aggT Tryz.prog 313 = some false:=by kernel_rfl
theorem unT313 : Tryz.prog.underlying 313 = some (.int .u64):=Tryz.underlying313
theorem zoT313 : zOf Tryz.prog 313 = some [.int .u64 0]:=by kernel_rfl
theorem hb2 : hasBody Tryz.prog 2 = true:=by kernel_rfl
theorem hb3 : hasBody Tryz.prog 3 = true:=by kernel_rfl
theorem hb4 : hasBody Tryz.prog 4 = true:=by kernel_rfl
theorem hb5 : hasBody Tryz.prog 5 = true:=by kernel_rfl
theorem hb32 : hasBody Tryz.prog 32 = true:=by kernel_rfl
theorem hb42 : hasBody Tryz.prog 42 = true:=by kernel_rfl
theorem hb43 : hasBody Tryz.prog 43 = true:=by kernel_rfl
theorem hb46 : hasBody Tryz.prog 46 = true:=by kernel_rfl
theorem hb51 : hasBody Tryz.prog 51 = true:=by kernel_rfl
theorem hb54 : hasBody Tryz.prog 54 = true:=by kernel_rfl
theorem hb58 : hasBody Tryz.prog 58 = true:=by kernel_rfl
theorem hb59 : hasBody Tryz.prog 59 = true:=by kernel_rfl
theorem hb60 : hasBody Tryz.prog 60 = true:=by kernel_rfl
theorem hb61 : hasBody Tryz.prog 61 = true:=by kernel_rfl
theorem hb62 : hasBody Tryz.prog 62 = true:=by kernel_rfl
theorem hb64 : hasBody Tryz.prog 64 = true:=by kernel_rfl
theorem hb65 : hasBody Tryz.prog 65 = true:=by kernel_rfl
theorem hb66 : hasBody Tryz.prog 66 = true:=by kernel_rfl
theorem hb67 : hasBody Tryz.prog 67 = true:=by kernel_rfl
theorem hb75 : hasBody Tryz.prog 75 = true:=by kernel_rfl
theorem hb77 : hasBody Tryz.prog 77 = true:=by kernel_rfl
theorem hb78 : hasBody Tryz.prog 78 = true:=by kernel_rfl
theorem hb79 : hasBody Tryz.prog 79 = true:=by kernel_rfl
theorem hb80 : hasBody Tryz.prog 80 = true:=by kernel_rfl
theorem hb82 : hasBody Tryz.prog 82 = true:=by kernel_rfl
theorem hb83 : hasBody Tryz.prog 83 = true:=by kernel_rfl
theorem hb88 : hasBody Tryz.prog 88 = true:=by kernel_rfl
theorem hb89 : hasBody Tryz.prog 89 = true:=by kernel_rfl
theorem hb92 : hasBody Tryz.prog 92 = true:=by kernel_rfl
theorem hb93 : hasBody Tryz.prog 93 = true:=by kernel_rfl
theorem hb95 : hasBody Tryz.prog 95 = true:=by kernel_rfl
theorem hb96 : hasBody Tryz.prog 96 = true:=by kernel_rfl
theorem hb101 : hasBody Tryz.prog 101 = true:=by kernel_rfl
theorem hb104 : hasBody Tryz.prog 104 = true:=by kernel_rfl
theorem hb105 : hasBody Tryz.prog 105 = true:=by kernel_rfl
theorem hb106 : hasBody Tryz.prog 106 = true:=by kernel_rfl
theorem hb113 : hasBody Tryz.prog 113 = true:=by kernel_rfl
theorem hb118 : hasBody Tryz.prog 118 = true:=by kernel_rfl
theorem hb121 : hasBody Tryz.prog 121 = true:=by kernel_rfl
theorem hb123 : hasBody Tryz.prog 123 = true:=by kernel_rfl
theorem hb128 : hasBody Tryz.prog 128 = true:=by kernel_rfl
theorem hb130 : hasBody Tryz.prog 130 = true:=by kernel_rfl
theorem hb134 : hasBody Tryz.prog 134 = true:=by kernel_rfl
theorem hb135 : hasBody Tryz.prog 135 = true:=by kernel_rfl
theorem hb136 : hasBody Tryz.prog 136 = true:=by kernel_rfl
theorem hb137 : hasBody Tryz.prog 137 = true:=by kernel_rfl
theorem hb138 : hasBody Tryz.prog 138 = true:=by kernel_rfl
theorem hb139 : hasBody Tryz.prog 139 = true:=by kernel_rfl
theorem hb146 : hasBody Tryz.prog 146 = true:=by kernel_rfl
theorem hb149 : hasBody Tryz.prog 149 = true:=by kernel_rfl
theorem hb150 : hasBody Tryz.prog 150 = true:=by kernel_rfl
theorem hb163 : hasBody Tryz.prog 163 = true:=by kernel_rfl
theorem hb164 : hasBody Tryz.prog 164 = true:=by kernel_rfl
theorem hb165 : hasBody Tryz.prog 165 = true:=by kernel_rfl
theorem hb166 : hasBody Tryz.prog 166 = true:=by kernel_rfl
theorem hb167 : hasBody Tryz.prog 167 = true:=by kernel_rfl
theorem hb168 : hasBody Tryz.prog 168 = true:=by kernel_rfl
theorem hb170 : hasBody Tryz.prog 170 = true:=by kernel_rfl
theorem hb171 : hasBody Tryz.prog 171 = true:=by kernel_rfl
theorem hb172 : hasBody Tryz.prog 172 = true:=by kernel_rfl
theorem hb173 : hasBody Tryz.prog 173 = true:=by kernel_rfl
theorem hb175 : hasBody Tryz.prog 175 = true:=by kernel_rfl
theorem hb176 : hasBody Tryz.prog 176 = true:=by kernel_rfl
theorem hb177 : hasBody Tryz.prog 177 = true:=by kernel_rfl
theorem hb178 : hasBody Tryz.prog 178 = true:=by kernel_rfl
theorem hb179 : hasBody Tryz.prog 179 = true:=by kernel_rfl
theorem hb180 : hasBody Tryz.prog 180 = true:=by kernel_rfl
theorem hb182 : hasBody Tryz.prog 182 = true:=by kernel_rfl
theorem hb183 : hasBody Tryz.prog 183 = true:=by kernel_rfl
theorem hb188 : hasBody Tryz.prog 188 = true:=by kernel_rfl
theorem hb189 : hasBody Tryz.prog 189 = true:=by kernel_rfl
theorem hb190 : hasBody Tryz.prog 190 = true:=by kernel_rfl
theorem hb191 : hasBody Tryz.prog 191 = true:=by kernel_rfl
theorem hb192 : hasBody Tryz.prog 192 = true:=by kernel_rfl
theorem hb193 : hasBody Tryz.prog 193 = true:=by kernel_rfl
theorem hb199 : hasBody Tryz.prog 199 = true:=by kernel_rfl
theorem hb201 : hasBody Tryz.prog 201 = true:=by kernel_rfl
theorem hb202 : hasBody Tryz.prog 202 = true:=by kernel_rfl
theorem hb203 : hasBody Tryz.prog 203 = true:=by kernel_rfl
theorem hb209 : hasBody Tryz.prog 209 = true:=by kernel_rfl
theorem hb210 : hasBody Tryz.prog 210 = true:=by kernel_rfl
theorem hb211 : hasBody Tryz.prog 211 = true:=by kernel_rfl
theorem hb212 : hasBody Tryz.prog 212 = true:=by kernel_rfl
theorem hb219 : hasBody Tryz.prog 219 = true:=by kernel_rfl
theorem hb221 : hasBody Tryz.prog 221 = true:=by kernel_rfl
theorem hb222 : hasBody Tryz.prog 222 = true:=by kernel_rfl
theorem hb228 : hasBody Tryz.prog 228 = true:=by kernel_rfl
theorem hb234 : hasBody Tryz.prog 234 = true:=by kernel_rfl
theorem hb235 : hasBody Tryz.prog 235 = true:=by kernel_rfl
theorem hb236 : hasBody Tryz.prog 236 = true:=by kernel_rfl
theorem hb237 : hasBody Tryz.prog 237 = true:=by kernel_rfl
theorem hb238 : hasBody Tryz.prog 238 = true:=by kernel_rfl
theorem hb239 : hasBody Tryz.prog 239 = true:=by kernel_rfl
theorem hb240 : hasBody Tryz.prog 240 = true:=by kernel_rfl
theorem hb244 : hasBody Tryz.prog 244 = true:=by kernel_rfl
theorem hb245 : hasBody Tryz.prog 245 = true:=by kernel_rfl
theorem hb246 : hasBody Tryz.prog 246 = true:=by kernel_rfl
theorem hb247 : hasBody Tryz.prog 247 = true:=by kernel_rfl
theorem hb248 : hasBody Tryz.prog 248 = true:=by kernel_rfl
theorem hb249 : hasBody Tryz.prog 249 = true:=by kernel_rfl
theorem hb250 : hasBody Tryz.prog 250 = true:=by kernel_rfl
theorem hb251 : hasBody Tryz.prog 251 = true:=by kernel_rfl
theorem hb252 : hasBody Tryz.prog 252 = true:=by kernel_rfl
theorem hb254 : hasBody Tryz.prog 254 = true:=by kernel_rfl
theorem hb255 : hasBody Tryz.prog 255 = true:=by kernel_rfl
theorem hb267 : hasBody Tryz.prog 267 = true:=by kernel_rfl
theorem hb274 : hasBody Tryz.prog 274 = true:=by kernel_rfl
theorem hb278 : hasBody Tryz.prog 278 = true:=by kernel_rfl
theorem hb279 : hasBody Tryz.prog 279 = true:=by kernel_rfl
theorem hb281 : hasBody Tryz.prog 281 = true:=by kernel_rfl
theorem hb282 : hasBody Tryz.prog 282 = true:=by kernel_rfl
theorem hb283 : hasBody Tryz.prog 283 = true:=by kernel_rfl
theorem hb284 : hasBody Tryz.prog 284 = true:=by kernel_rfl
theorem hb285 : hasBody Tryz.prog 285 = true:=by kernel_rfl
theorem hb286 : hasBody Tryz.prog 286 = true:=by kernel_rfl
theorem hb287 : hasBody Tryz.prog 287 = true:=by kernel_rfl
theorem hb288 : hasBody Tryz.prog 288 = true:=by kernel_rfl
theorem hb289 : hasBody Tryz.prog 289 = true:=by kernel_rfl
theorem hb292 : hasBody Tryz.prog 292 = true:=by kernel_rfl
theorem hb293 : hasBody Tryz.prog 293 = true:=by kernel_rfl
theorem hb321 : hasBody Tryz.prog 321 = true:=by kernel_rfl
theorem hb322 : hasBody Tryz.prog 322 = true:=by kernel_rfl
theorem hb323 : hasBody Tryz.prog 323 = true:=by kernel_rfl
theorem hb334 : hasBody Tryz.prog 334 = true:=by kernel_rfl
theorem nb169 : Bodyless Tryz.prog 169 add64Entry:=⟨Tryz.f169,Tryz.func169,by kernel_rfl,by kernel_rfl,by kernel_rfl,by kernel_rfl⟩
theorem nb241 : Bodyless Tryz.prog 241 sub64Entry:=⟨Tryz.f241,Tryz.func241,by kernel_rfl,by kernel_rfl,by kernel_rfl,by kernel_rfl⟩
theorem mixT : Tryz.prog.follows .mixedOrders = true:=Tryz.checked.mixed
attribute [simp] idf_Wd' List.getElem?_cons_zero List.getElem?_cons_succ List.getElem?_toArray runOps stepOp.eq_def agd.eq_def dstOk.eq_def opVal.eq_def opNew.eq_def opSto.eq_def ev.eq_def cv.eq_def puts_some puts_none upd_ap lst.eq_def aBin.eq_def aUn.eq_def aBi_str aBi_isl aBi_osl aBi_nsl aBi_cap aBi_max aBi_min aBi_max3 aConv.eq_def aLd.eq_def aLoad.eq_def aField.eq_def aFld.eq_def aIdx_isl aIdx_osl aSlc_isl aSlc_osl aSlc_str aSlc_nsl bnd.eq_def evs_nil evs_cons aBuild.eq_def aFill splice.eq_def cells_agg cells_int cells_bool cells_str cells_nil cells_nsl cells_isl cells_osl cells_ptr cells_ip cells_fn cells_Wd one_int one_bool one_str one_nil one_nsl one_isl one_osl one_ptr one_ip one_fn one_Wd aSets hupd_eq hupd_ne wrap_i64s wrap_u64s wrap_u32s wrap_u8s wd_getD wd_set wd_len wd_replicate wd_one wd_fold fz_osl hupd_same aSix.eq_def aEqS.eq_def aEqB_bool aEqB_nsl aEqB_nil
end Go.Proofs.YtaibemhdfhchfaaGreat
