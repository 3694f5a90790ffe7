/-
  States and moves, out of numbers: the contract of galliardref18.Nfa.
-/
import Derived.Test.YtbhjmioegdgpnaaTy
import Derived.Test.YtbhjmioegdgpnaaNfa
import Derived.Test.YtbhjmioegdgpnaaRf
namespace Go.Proofs.Ytbhjmioegdgpnaa
open Go.Ab
set_option linter.unusedSimpArgs false
set_option linter.unusedVariables false

end Go.Proofs.Ytbhjmioegdgpnaa
