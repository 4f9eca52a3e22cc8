/- Uploads: deleting by a test, setting one; UpLost, UpAck. -/
import Derived.Test.YthebgoognabinaaGreatPL
namespace Go.Proofs.SL
open Go
theorem take_succ' {α : Type} {l : List α} {k : Nat} {x : α} (h : l[k]? = some x) : l.take (k + 1) = l.take k ++ [x] := by
  rw [List.take_add_one, h]; rfl
end Go.Proofs.SL
