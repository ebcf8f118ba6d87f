/- Calls that hand back a new block of one's own; rows that are marked. -/
import Derived.Test.YtgeecahbahgjbaaG0V

namespace Go.Proofs.Ytgeecahbahgjbaa
open Go Go.RowKit

/-- A heap of one block. -/
def hone (id z : Nat) (es : List (List AV)) : Heap := fun i => if i = id then some (z, es) else none
section
variable {P : Program} {ops : Array Oper} {K : St → Prop} {s : St} {o : Oper} {rest : List Oper}
end
section
variable {P : Program} {f : FuncId} {args : List AV}
end
section
variable {P : Program} {ops : Array Oper} {K : St → Prop} {s : St} {o : Oper} {rest : List Oper}
end
end Go.Proofs.Ytgeecahbahgjbaa
