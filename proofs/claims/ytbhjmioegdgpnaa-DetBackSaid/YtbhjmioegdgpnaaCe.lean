/-
  Plain facts on sums: what is put is got; the sums' laws.
-/
import Derived.Test.YtbhjmioegdgpnaaCd
namespace Go.Proofs.Ytbhjmioegdgpnaa
open Go.Ab
set_option linter.unusedSimpArgs false
set_option linter.unusedVariables false

end Go.Proofs.Ytbhjmioegdgpnaa
