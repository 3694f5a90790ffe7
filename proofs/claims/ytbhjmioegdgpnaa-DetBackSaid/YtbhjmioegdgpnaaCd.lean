/-
  Plain functions on bits and bytes, and what operations of numbers come to: the data of package crc.
-/
import Derived.Test.YtbhjmioegdgpnaaDat
namespace Go.Proofs.Ytbhjmioegdgpnaa
open Go.Ab
set_option linter.unusedSimpArgs false
set_option linter.unusedVariables false

/-! ### a number's bytes -/
end Go.Proofs.Ytbhjmioegdgpnaa
