/-
  How many words there are: the contract of lang.Count.
-/
import Derived.Test.YtcfnbofapjgepaaSh
namespace Go.Proofs.Ytcfnbofapjgepaa
open Go.Ab
set_option linter.unusedSimpArgs false
set_option linter.unusedVariables false

end Go.Proofs.Ytcfnbofapjgepaa
