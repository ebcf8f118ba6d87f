/- A region in any order, by what holds of the operations that are done. -/
import Derived.Test.YtaibemhdfhchfaaGreatG0U

namespace Go.Proofs.YtaibemhdfhchfaaGreat
open Go Go.RowKit

section
variable {P : Program} {l : List Oper} {K : St → Prop} {s : St}
theorem Closed.not {ops : Array Oper} {L : Nat → Bool} (h : Closed ops L) {k j : Nat} {o : Oper} (hj : L j = false) (ho : ops[k]? = some o) (hp : j ∈ pre o) : L k = false:=by
  cases hk : L k with
  | false=>rfl
  | true=>rw [h k o hk ho j hp] at hj; simp at hj
end
end Go.Proofs.YtaibemhdfhchfaaGreat
