/- Arguments opened: what a row's input reads as, as an abstract value. -/
import Derived.Test.YtdcggmbnjonemaaG0Q
import Derived.Deep.Slices
import Derived.Deep.Strs
import Derived.ChangeArms
import Derived.DataReads

namespace Go.Proofs.Ytdcggmbnjonemaa
open Go Go.RowKit

def β0 : Nat → Option Loc := fun _ => none
def b0 : Nat → Bool := fun _ => false
section
variable {H : Type} {enc : TypeId × Value → H} {P : Program} {w : World} {base : Nat} {sp : Nat → Bool} {held : Bool}
end
end Go.Proofs.Ytdcggmbnjonemaa
