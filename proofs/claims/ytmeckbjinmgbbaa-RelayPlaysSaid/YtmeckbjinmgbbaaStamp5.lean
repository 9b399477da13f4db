/- stamp: the document's answer, read. -/
import Derived.Test.YtmeckbjinmgbbaaStamp4
set_option linter.unusedVariables false
set_option linter.unusedSimpArgs false

namespace Go.Proofs.Ytmeckbjinmgbbaa
open Go.X
theorem fillD {l : List Int} {i o : Nat} (hi : i < 32) (h : o + 32 ≤ l.length) : ((l.drop o).take i ++ List.replicate (32 - i) 0).set i (l.getD (o + i) 0) = (l.drop o).take (i + 1) ++ List.replicate (32 - (i + 1)) 0 := by
  rw [show l.getD (o + i) 0 = (l.drop o).getD i 0 by simp [List.getD_eq_getElem?_getD, List.getElem?_drop]]
  exact fillTake hi (by simp; omega)

end Go.Proofs.Ytmeckbjinmgbbaa