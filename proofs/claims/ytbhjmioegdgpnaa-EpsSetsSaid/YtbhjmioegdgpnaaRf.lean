/-
  States that may be, out of numbers: the contract of galliardref18.Dfa.
-/
import Derived.Test.YtbhjmioegdgpnaaTy
import Derived.Test.YtbhjmioegdgpnaaDfa
import Derived.Test.YtbhjmioegdgpnaaFam
namespace Go.Proofs.Ytbhjmioegdgpnaa
open Go.Ab
set_option linter.unusedSimpArgs false
set_option linter.unusedVariables false

end Go.Proofs.Ytbhjmioegdgpnaa
