/-
  Whether the same words lead from two states to where it may end: plain facts.
-/
import Derived.Test.YtcfnbofapjgepaaCtLaw
import Derived.Test.YtcfnbofapjgepaaDi
namespace Go.Proofs.Ytcfnbofapjgepaa
open Go.Ab
set_option linter.unusedSimpArgs false
set_option linter.unusedVariables false

end Go.Proofs.Ytcfnbofapjgepaa
