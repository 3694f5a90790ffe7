/-
  States of which each interaction leads to one, as moves: plain functions.
-/
import Derived.Test.YtbhjmioegdgpnaaNfa
namespace Go.Proofs.Ytbhjmioegdgpnaa
open Go.Ab
set_option linter.unusedSimpArgs false
set_option linter.unusedVariables false

/-- The moves of a row's first so many cells. -/
def rowP (r : List Int) : Nat → List (Int × Int)
  | 0 => []
  | j + 1 => rowP r j ++ (if 0 ≤ r.getD j 0 then [((j : Int), r.getD j 0)] else [])
def rowM (r : List Int) : List (Int × Int) := rowP r r.length
def movD (N : List (List Int)) : List (List (Int × Int)) := N.map rowM
theorem rowP_len (r : List Int) : ∀ j, (rowP r j).length ≤ j
  | 0 => Nat.le_refl _
  | j + 1 => by
    have := rowP_len r j
    rw [rowP, List.length_append]
    split <;> simp <;> omega
theorem movD_get {N : List (List Int)} {s : Nat} (h : s < N.length) : (movD N).getD s [] = rowM (N.getD s []) := by
  simp [movD, List.getD, List.getElem?_eq_getElem h]
theorem movD_len (N : List (List Int)) : (movD N).length = N.length := by simp [movD]
end Go.Proofs.Ytbhjmioegdgpnaa
