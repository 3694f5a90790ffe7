/-
  The contracts of galliardref18.Step, Takes.
-/
import Derived.Test.YtbhjmioegdgpnaaEr
namespace Go.Proofs.Ytbhjmioegdgpnaa
open Go.Ab
set_option linter.unusedSimpArgs false
set_option linter.unusedVariables false

end Go.Proofs.Ytbhjmioegdgpnaa
