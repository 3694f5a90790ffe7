/-
  Plain facts for FrameTorn: one byte of a sealed run changed, the seal breaks.
-/
import Derived.Test.YtfdkihapckfjhaaBurst
namespace Go.Proofs.Ytfdkihapckfjhaa
open Go.Ab
set_option linter.unusedSimpArgs false
set_option linter.unusedVariables false

theorem set_bent (s : List UInt8) (j k : Nat) (x : UInt8) (hk : k ≤ j) (hj : j < k + 4) (hl : k + 4 ≤ s.length) :
    s.set j (s.getD j 0 ^^^ x) = bent s k ((List.replicate 4 0).set (j - k) x) 4 := by
  apply List.ext_getElem?
  intro i
  by_cases hi : i < s.length
  · rw [bent_get _ _ _ 4 i hi, List.getElem?_set]
    by_cases hij : j = i
    · subst hij
      rw [if_pos rfl, if_pos hi, if_pos ⟨hk, hj⟩]
      have : (((List.replicate 4 (0 : UInt8)).set (j - k) x).getD (j - k) 0) = x := by
        simp only [List.getD]; rw [List.getElem?_set, if_pos rfl, if_pos (by simp; omega)]; rfl
      rw [this]
    · rw [if_neg hij]
      have e : (if k ≤ i ∧ i < k + 4 then (((List.replicate 4 (0 : UInt8)).set (j - k) x).getD (i - k) 0) else 0) = 0 := by
        split
        · rename_i h
          simp only [List.getD]
          rw [List.getElem?_set, if_neg (by omega), List.getElem?_replicate, if_pos (by omega)]; rfl
        · rfl
      rw [e, UInt8.xor_zero]
      simp [List.getD, List.getElem?_eq_getElem hi]
  · rw [List.getElem?_eq_none (by simp; omega), List.getElem?_eq_none (by rw [bent_len]; omega)]

/-- One byte of a sealed run changed: the seal does not hold. -/
theorem set_unsealed {y : List UInt8} {j : Nat} {x : UInt8} (hj : j < y.length + 4) (hx : x ≠ 0) (t : List UInt8)
    (ht : t = (y ++ put4 (crcSum y)).set j ((y ++ put4 (crcSum y)).getD j 0 ^^^ x)) : crcSum (t.take y.length) ≠ get4 t y.length := by
  have hs : (y ++ put4 (crcSum y)).length = y.length + 4 := by simp [put4_len]
  have htl : t.length = y.length + 4 := by rw [ht, List.length_set, hs]
  have hk : min j y.length ≤ y.length := Nat.min_le_right _ _
  rw [set_bent _ j (min j y.length) x (by omega) (by omega) (by omega)] at ht
  have hd : j - min j y.length = 0 ∨ j - min j y.length = 1 ∨ j - min j y.length = 2 ∨ j - min j y.length = 3 := by omega
  intro h
  rw [show y.length = t.length - 4 by omega] at h
  rcases hd with e | e | e | e <;> rw [e] at ht
  · exact hx ((bent_sealed hk t ht).1 h).1
  · exact hx ((bent_sealed hk t ht).1 h).2.1
  · exact hx ((bent_sealed hk t ht).1 h).2.2.1
  · exact hx ((bent_sealed hk t ht).1 h).2.2.2

end Go.Proofs.Ytfdkihapckfjhaa
