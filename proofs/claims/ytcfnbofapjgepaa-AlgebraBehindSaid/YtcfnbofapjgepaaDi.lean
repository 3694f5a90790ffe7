/-
  The contract of lang.Differ, lang.Equal.
-/
import Derived.Test.YtcfnbofapjgepaaSh
namespace Go.Proofs.Ytcfnbofapjgepaa
open Go.Ab
set_option linter.unusedSimpArgs false
set_option linter.unusedVariables false

def ch2 (N M : List (List Int)) (s : S2) (c : Nat) : Option S2 := if toD N s.1 c < 0 ∧ toD M s.2 c < 0 then none else some (toD N s.1 c, toD M s.2 c)
def finS (F : List Bool) (s : Int) : Bool := decide (0 ≤ s) && F.getD s.toNat false
def keyS (s : S2) : Value := .agg #[.int .i64 s.1, .int .i64 s.2]
theorem keyEq_S (s t : S2) : keyEq (keyS s) (keyS t) = (t == s) := by
  rw [Bool.eq_iff_iff]
  simp only [keyS, keyEq_pair, Bool.and_eq_true, beq_iff_eq]
  constructor
  · rintro ⟨h1, h2⟩; exact (Prod.ext h1 h2).symm
  · rintro rfl; exact ⟨rfl, rfl⟩
end Go.Proofs.Ytcfnbofapjgepaa
