/-
  The contract of mini.Classes.
-/
import Derived.Test.YtbhjmioegdgpnaaKm
import Derived.Test.YtbhjmioegdgpnaaMay
namespace Go.Proofs.Ytbhjmioegdgpnaa
open Go.Ab
set_option linter.unusedSimpArgs false
set_option linter.unusedVariables false

def strK (x : List Int) : Value := .string (kStr x)
theorem keyEq_str {l m : List Int} (hl : ∀ x ∈ l, -1 ≤ x ∧ x < 65535) (hm : ∀ x ∈ m, -1 ≤ x ∧ x < 65535) : keyEq (strK l) (strK m) = (m == l) := by
  rw [show keyEq (strK l) (strK m) = (kStr l == kStr m) from rfl, kStr_eq hl hm, Bool.eq_iff_iff, beq_iff_eq, beq_iff_eq]
  exact eq_comm
end Go.Proofs.Ytbhjmioegdgpnaa
