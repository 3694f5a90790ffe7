/-
  Shortest words, and how many there are: plain facts.
-/
import Derived.Test.YtcfnbofapjgepaaCt
import Derived.Test.YtcfnbofapjgepaaWd
namespace Go.Proofs.Ytcfnbofapjgepaa
open Go.Ab
set_option linter.unusedSimpArgs false
set_option linter.unusedVariables false

/-- Words by number: so many shorter ones. -/
def base (L : Nat) : Nat → Nat
  | 0 => 0
  | n + 1 => base L n * L + 1
end Go.Proofs.Ytcfnbofapjgepaa
