/-
  Sets of states as states: which words are taken.
-/
import Derived.Test.YtbhjmioegdgpnaaDt
namespace Go.Proofs.Ytbhjmioegdgpnaa
open Go.Ab
set_option linter.unusedSimpArgs false
set_option linter.unusedVariables false

section
variable {L k : Nat} {M : Mv} {z : List Int} {Q : List (List Int)}
end
end Go.Proofs.Ytbhjmioegdgpnaa
