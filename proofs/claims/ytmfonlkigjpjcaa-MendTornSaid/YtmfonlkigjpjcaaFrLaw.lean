/-
  The laws of layer 34: awake, FrameBack, walked.
-/
import Derived.Test.YtmfonlkigjpjcaaFrame2
namespace Go.Proofs.Ytmfonlkigjpjcaa
open Go.Ab
set_option linter.unusedSimpArgs false
set_option linter.unusedVariables false

/-- A frame behind others, read: its head, its end, its sum, its bytes. -/
theorem frame_read {p l q : List UInt8} (h4 : l.length ≤ 400) : headN (p ++ frameOf l ++ q) p.length = l.length ∧ (((p ++ frameOf l ++ q).getD (p.length + l.length + 6) 0).toNat : Int) = 165 ∧
    (get4 (p ++ frameOf l ++ q) (p.length + l.length + 2) != crcSum (((p ++ frameOf l ++ q).drop (p.length + 2)).take l.length)) = false ∧ ((p ++ frameOf l ++ q).drop (p.length + 2)).take l.length = l := by
  have hfl := frameOf_len l
  have at_ : ∀ j, j < (frameOf l).length → (p ++ frameOf l ++ q).getD (p.length + j) 0 = (frameOf l).getD j 0 := fun j hj => by
    simp only [List.getD]
    rw [List.getElem?_append_left (by simp <;> omega), List.getElem?_append_right (by omega), Nat.add_sub_cancel_left]
  have fr : ∀ j, j < l.length → (frameOf l)[2 + j]? = l[j]? := fun j hj => by
    unfold frameOf
    rw [List.append_assoc, List.append_assoc, List.getElem?_append_right (by simp), List.getElem?_append_left (by simp <;> omega)]
    congr 1
    simp
  have s4 : ∀ j, (frameOf l).getD (l.length + 2 + j) 0 = (put4 (crcSum l) ++ [165]).getD j 0 := fun j => by
    unfold frameOf
    simp only [List.getD]
    rw [List.append_assoc, List.getElem?_append_right (by simp <;> omega)]
    congr 2
    simp <;> omega
  have hx : ((p ++ frameOf l ++ q).drop (p.length + 2)).take l.length = l := by
    apply List.ext_getElem?
    intro j
    by_cases hj : j < l.length
    · rw [List.getElem?_take, if_pos hj, List.getElem?_drop, List.getElem?_append_left (by simp <;> omega), List.getElem?_append_right (by omega), ← fr j hj]
      congr 1; omega
    · rw [List.getElem?_eq_none (by simp <;> omega), List.getElem?_eq_none (by omega)]
  refine ⟨?_, ?_, ?_, hx⟩
  · unfold headN
    have e0 := at_ 0 (by omega)
    have e1 := at_ 1 (by omega)
    rw [Nat.add_zero] at e0
    rw [e0, e1]
    have f0 : (frameOf l).getD 0 0 = UInt8.ofNat l.length := rfl
    have f1 : (frameOf l).getD 1 0 = UInt8.ofNat (l.length / 256) := rfl
    rw [f0, f1]
    have h1 : (UInt8.ofNat l.length).toNat = l.length % 256 := by simp
    have h2 : (UInt8.ofNat (l.length / 256)).toNat = l.length / 256 % 256 := by simp
    rw [h1, h2]; omega
  · have := at_ (l.length + 6) (by omega)
    rw [← Nat.add_assoc] at this
    rw [this, show l.length + 6 = l.length + 2 + 4 by omega, s4 4]
    rfl
  · rw [hx]
    have e : get4 (p ++ frameOf l ++ q) (p.length + l.length + 2) = crcSum l := by
      have g : ∀ j, j < 4 → (p ++ frameOf l ++ q).getD (p.length + l.length + 2 + j) 0 = (put4 (crcSum l)).getD j 0 := fun j hj => by
        have := at_ (l.length + 2 + j) (by omega)
        rw [show p.length + l.length + 2 + j = p.length + (l.length + 2 + j) by omega, this, s4 j]
        simp only [List.getD]
        rw [List.getElem?_append_left (by rw [put4_len]; exact hj)]
      unfold get4
      have g0 := g 0 (by omega)
      rw [Nat.add_zero] at g0
      rw [g0, g 1 (by omega), g 2 (by omega), g 3 (by omega)]
      exact get4_put4 _
    rw [e]; exact bne_self_eq_false _

end Go.Proofs.Ytmfonlkigjpjcaa
