/-
  States that may be, out of numbers: the contract of galliardref18.Dfa.
-/
import Derived.Test.YtbhjmioegdgpnaaTy
import Derived.Test.YtbhjmioegdgpnaaDfa
import Derived.Test.YtbhjmioegdgpnaaFam
namespace Go.Proofs.Ytbhjmioegdgpnaa
open Go.Ab
set_option linter.unusedSimpArgs false
set_option linter.unusedVariables false

def negP (L j : Nat) : List Int := List.replicate j (-1) ++ List.replicate (L - j) 0
theorem negP_zero (L : Nat) : negP L 0 = List.replicate L 0 := by simp [negP]
theorem negP_all (L : Nat) : negP L L = negs L := by simp [negP, negs]
theorem negP_len {L j : Nat} (h : j ≤ L) : (negP L j).length = L := by simp [negP]; omega
theorem negP_set {L j : Nat} (h : j < L) : (negP L j).set j (-1) = negP L (j + 1) := by
  rw [negP, List.set_append_right _ _ (by simp), List.length_replicate, Nat.sub_self, show L - j = (L - (j + 1)) + 1 by omega, List.replicate_succ, List.set_cons_zero, negP, List.replicate_succ', List.append_assoc]; rfl

def dfaD (L s : Nat) (F : List Bool) (N : List (List Int)) : D := .agg [i64 L, i64 s, .sl false (bos F), .sl false (iis N)]

end Go.Proofs.Ytbhjmioegdgpnaa
