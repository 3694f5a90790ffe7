/-
  The contracts of slices.Reverse, lang.final, lang.word.
-/
import Derived.Test.YtcfnbofapjgepaaEnds
import Derived.Test.YtcfnbofapjgepaaBfs
namespace Go.Proofs.Ytcfnbofapjgepaa
open Go.Ab
set_option linter.unusedSimpArgs false
set_option linter.unusedVariables false

def nInts (w : List Nat) : List Int := w.map fun (x : Nat) => (x : Int)

end Go.Proofs.Ytcfnbofapjgepaa
