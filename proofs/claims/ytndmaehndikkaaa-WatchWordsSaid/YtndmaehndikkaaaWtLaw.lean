/-
  What is seen, one by one: plain facts.
-/
import Derived.Test.YtndmaehndikkaaaWt
namespace Go.Proofs.Ytndmaehndikkaaa
open Go.Ab
set_option linter.unusedSimpArgs false
set_option linter.unusedVariables false

/-- Where it is behind so many interactions, and the place of the first that is wrong. -/
def wP (F : List Bool) (N : List (List Int)) (s : Int) (w : List Int) : Nat → Int × Int
  | 0 => (s, -1)
  | k + 1 => (sawAt N (wP F N s w k).1 (wP F N s w k).2 (w.getD k 0), sawWr F N (wP F N s w k).1 (wP F N s w k).2 (w.getD k 0) k)
def fineP (F : List Bool) (N : List (List Int)) (s : Int) (w : List Int) : Nat → Bool
  | 0 => true
  | k + 1 => sawOk F N (wP F N s w k).1 (wP F N s w k).2 (w.getD k 0) && fineP F N s w k

theorem runD_split {N : List (List Int)} {w : List Int} {k : Nat} {s : Int} (hk : k < w.length) (h : 0 ≤ runD N s (w.take k)) : runD N s w = runD N (toD N (runD N s (w.take k)) (w.getD k 0)) (w.drop (k + 1)) := by
  conv => lhs; rw [← List.take_append_drop (k + 1) w]
  rw [runD_append, runD_next hk h]
theorem wP_inv {L n : Nat} {F : List Bool} {N : List (List Int)} (h : NOk L n N) (hF : F.length = n) {s : Int} (hs : 0 ≤ s ∧ s < (n : Int)) (w : List Int) : ∀ k, k ≤ w.length →
    (fineP F N s w k = true → (wP F N s w k).2 = -1 ∧ (wP F N s w k).1 = runD N s (w.take k) ∧ 0 ≤ runD N s (w.take k) ∧ runD N s (w.take k) < (n : Int)) ∧
    (fineP F N s w k = false → 0 ≤ (wP F N s w k).2 ∧ endsD F N s w = false)
  | 0, _ => ⟨fun _ => ⟨rfl, rfl, hs.1, hs.2⟩, fun q => by cases q⟩
  | k + 1, hk => by
    have hl := h.len
    obtain ⟨i1, i2⟩ := wP_inv h hF hs w k (by omega)
    rw [fineP, wP]
    cases hf : fineP F N s w k
    · obtain ⟨g1, g2⟩ := i2 hf
      refine ⟨by simp, fun _ => ⟨?_, g2⟩⟩
      simp only [sawWr]
      rw [if_neg (by omega)]; exact g1
    · obtain ⟨g1, g2, g3, g4⟩ := i1 hf
      have hnx := runD_next (N := N) (s := s) (w := w) (n := k) (by omega) g3
      have hsp := runD_split (N := N) (s := s) (w := w) (k := k) (by omega) g3
      simp only [g1, g2, Bool.and_true]
      have hto := toD_ok h (runD N s (w.take k)) (w.getD k 0)
      generalize runD N s (w.take k) = z at *
      generalize w.getD k 0 = x at *
      have d2 : ((-1 : Int) < 0) = True := eq_true (by decide)
      simp only [sawOk, sawAt, sawWr, hnx, d2, decide_true, if_true, Bool.true_and]
      cases hq : (decide (0 ≤ toD N z x) && (liveL F N).getD (toD N z x).toNat false)
      · refine ⟨by simp, fun _ => ⟨by simp, ?_⟩⟩
        rw [endsD, hsp]
        by_cases h0 : 0 ≤ toD N z x
        · have e0 : decide (0 ≤ toD N z x) = true := by simpa using h0
          rw [e0, Bool.true_and] at hq
          cases he : (decide (0 ≤ runD N (toD N z x) (w.drop (k + 1))) && F.getD (runD N (toD N z x) (w.drop (k + 1))).toNat false)
          · rfl
          · have := lv_of_run h0 (show endsD F N (toD N z x) (w.drop (k + 1)) = true from he)
            have := (live_iff (by omega) (fun s t ht => by
              rcases Nat.lt_or_ge s n with q | q
              · have := (h.get q).2 t ht; omega
              · rw [List.getD, List.getElem?_eq_none (by omega)] at ht; simp at ht) (show (toD N z x).toNat < N.length by omega)).2 this
            rw [hq] at this; cases this
        · rw [runD_neg (by omega)]
          simp [h0]
      · refine ⟨fun _ => ⟨by simp, by trivial, ?_⟩, by simp⟩
        simp only [Bool.and_eq_true, decide_eq_true_eq] at hq
        omega
/-- What is seen is right, just as it ends. -/
theorem wP_end {L n : Nat} {F : List Bool} {N : List (List Int)} (h : NOk L n N) (hF : F.length = n) {s : Int} (hs : 0 ≤ s ∧ s < (n : Int)) (w : List Int) :
    (endsD F N s w && !fineP F N s w w.length) = false ∧ (decide ((wP F N s w w.length).2 < 0) && (decide (0 ≤ (wP F N s w w.length).1) && F.getD (wP F N s w w.length).1.toNat false)) = (endsD F N s w && fineP F N s w w.length) := by
  obtain ⟨i1, i2⟩ := wP_inv h hF hs w w.length (Nat.le_refl _)
  cases hf : fineP F N s w w.length
  · obtain ⟨g1, g2⟩ := i2 hf
    rw [g2]
    have : decide ((wP F N s w w.length).2 < 0) = false := by simp; omega
    rw [this]; simp
  · obtain ⟨g1, g2, g3, g4⟩ := i1 hf
    rw [List.take_length] at g2
    rw [g1, g2]
    simp [endsD]

end Go.Proofs.Ytndmaehndikkaaa
