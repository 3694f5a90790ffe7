/-
  Plain facts on sums: four bytes within a list.
-/
import Derived.Test.YtfllndodnhmhkaaCe
import Derived.Test.YtfllndodnhmhkaaCd
namespace Go.Proofs.Ytfllndodnhmhkaa
open Go.Ab
set_option linter.unusedSimpArgs false
set_option linter.unusedVariables false

theorem get4_pre {l m : List UInt8} {i : Nat} (h : i + 4 ≤ l.length) : get4 (l ++ m) i = get4 l i := by
  have e : ∀ j, j < l.length → (l ++ m).getD j 0 = l.getD j 0 := fun j hj => by
    simp [List.getD, List.getElem?_append_left hj]
  rw [get4, get4, e i (by omega), e (i + 1) (by omega), e (i + 2) (by omega), e (i + 3) (by omega)]

end Go.Proofs.Ytfllndodnhmhkaa
