/-
  How many words there are: plain facts.
-/
import Derived.Test.YtcfnbofapjgepaaShLaw
namespace Go.Proofs.Ytcfnbofapjgepaa
open Go.Ab
set_option linter.unusedSimpArgs false
set_option linter.unusedVariables false

end Go.Proofs.Ytcfnbofapjgepaa
