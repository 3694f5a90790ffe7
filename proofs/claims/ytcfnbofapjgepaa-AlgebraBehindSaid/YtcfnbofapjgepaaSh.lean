/-
  The contract of lang.Shortest.
-/
import Derived.Test.YtcfnbofapjgepaaLg
import Derived.Test.YtcfnbofapjgepaaMay
namespace Go.Proofs.Ytcfnbofapjgepaa
open Go.Ab
set_option linter.unusedSimpArgs false
set_option linter.unusedVariables false

theorem nInts_len (l : List Nat) : (nInts l).length = l.length := by simp [nInts]
end Go.Proofs.Ytcfnbofapjgepaa
