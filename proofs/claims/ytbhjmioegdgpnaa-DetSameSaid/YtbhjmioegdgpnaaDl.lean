/-
  Sets of states as states: which words are taken.
-/
import Derived.Test.YtbhjmioegdgpnaaDt
namespace Go.Proofs.Ytbhjmioegdgpnaa
open Go.Ab
set_option linter.unusedSimpArgs false
set_option linter.unusedVariables false

theorem ends_consX {F : List Bool} {N : List (List Int)} (s a : Int) (w : List Int) : endsD F N s (a :: w) = endsD F N (toD N s a) w := by
  unfold endsD
  rw [runD]
  split
  · rename_i h
    have : toD N s a = -1 := by unfold toD; rw [if_pos (.inl h)]
    rw [this, runD_neg (by decide)]
    rw [decide_eq_false (by omega), decide_eq_false (by omega), Bool.false_and, Bool.false_and]
  · rfl
theorem ends_negX {F : List Bool} {N : List (List Int)} {s : Int} (h : s < 0) (w : List Int) : endsD F N s w = false := by
  unfold endsD
  rw [runD_neg h, decide_eq_false (by omega), Bool.false_and]
theorem toD_atX {L k : Nat} {N : List (List Int)} (h : NOk L k N) {s a : Nat} (hs : s < k) (ha : a < L) : toD N s a = (N.getD s []).getD a 0 := by
  have hl := h.len
  have := (h.get hs).1
  unfold toD
  rw [if_neg (by rw [Int.toNat_natCast]; omega), Int.toNat_natCast, Int.toNat_natCast]
theorem toD_farX {L k : Nat} {N : List (List Int)} (h : NOk L k N) {s : Nat} (hs : s < k) {a : Int} (ha : (L : Int) ≤ a) : toD N s a = -1 := by
  have hl := h.len
  have := (h.get hs).1
  unfold toD
  rw [if_pos (by rw [Int.toNat_natCast]; omega)]
section
variable {L k : Nat} {M : Mv} {z : List Int} {Q : List (List Int)}
theorem DA.lang (h : DA L k M z Q) (F : List Bool) : ∀ (w : List Int) (i : Nat), i < Q.length → (∀ x ∈ w, 0 ≤ x) → endsD (dFin F Q) (dNx L M Q) i w = finL F (takS M (Q.getD i []) w)
  | [], i, hi, _ => by
    have e : endsD (dFin F Q) (dNx L M Q) i [] = (decide (0 ≤ (i : Int)) && (dFin F Q).getD (i : Int).toNat false) := rfl
    rw [e, decide_eq_true (by omega), Bool.true_and, Int.toNat_natCast]
    unfold dFin
    rw [getD_mapD _ _ [] hi]
    rfl
  | a :: w, i, hi, hw => by
    have h0 := hw a (by simp)
    have hw' : ∀ x ∈ w, 0 ≤ x := fun x hx => hw x (by simp [hx])
    rw [ends_consX, takS]
    by_cases ha : a < (L : Int)
    · obtain ⟨b, rfl⟩ := Int.eq_ofNat_of_zero_le h0
      have hb : b < L := by omega
      rw [toD_atX h.ok hi hb, h.cell hi hb]
      have hhas := h.has hi hb
      unfold dNum
      split
      · rename_i he
        have : stepL M (Q.getD i []) (b : Int) = [] := by simpa using he
        rw [ends_negX (by decide), this, cloL_nil M h.hM, takS_nil h.hM]
        rfl
      · rename_i he
        have hm := hhas (by simpa using he)
        have hj := List.idxOf_lt_length_of_mem hm
        rw [h.lang F w _ hj hw']
        have e : Q.getD (Q.idxOf (dTo M (Q.getD i []) (b : Int))) [] = dTo M (Q.getD i []) (b : Int) := by
          have hg := List.getElem_idxOf hj
          rw [List.getD_eq_getElem?_getD, List.getElem?_eq_getElem hj, Option.getD_some, hg]
        rw [e]
        rfl
    · rw [toD_farX h.ok hi (by omega), ends_negX (by decide), stepL_far h.hM _ (by omega), cloL_nil M h.hM, takS_nil h.hM]
      rfl
theorem clo_ne (h : MOk L k M) {l : List Int} {x : Nat} (hx : (x : Int) ∈ l) (hk : x < k) : cloL M l ≠ [] := fun e => by
  have := (cloL_mem h (l := l) (x := (x : Int))).2 ⟨x, rfl, .base hx (by have := h.len; omega)⟩
  rw [e] at this
  cases this
theorem dTo_ne (h : MOk L k M) {S : List Int} {a : Int} : (stepL M S a).isEmpty = (dTo M S a).isEmpty := by
  cases hs : stepL M S a with
  | nil => unfold dTo; rw [hs, cloL_nil M h]
  | cons x t =>
    have hm : x ∈ stepL M S a := by rw [hs]; simp
    obtain ⟨i, _, hm2⟩ := (stepL_mem h).1 hm
    have hg := h.get i _ hm2
    simp only at hg
    have : dTo M S a ≠ [] := clo_ne h (x := x.toNat) (by rw [show ((x.toNat : Nat) : Int) = x by omega]; exact hm) (by omega)
    cases hd : dTo M S a with
    | nil => exact absurd hd this
    | cons y u => rfl
theorem fold_ne (h : MOk L k M) {S : List Int} : ∀ (ks : List Int) {q : List (List Int)}, (∀ a ∈ ks, (stepL M S a).isEmpty = false) → (∀ T ∈ q, T ≠ []) → ∀ T ∈ dFold M S q ks, T ≠ []
  | [], q, _, hq => hq
  | a :: ks, q, hk, hq => fold_ne h ks (fun b hb => hk b (by simp [hb])) fun T hT => by
    unfold addQ at hT
    split at hT
    · exact hq T hT
    · rcases List.mem_append.1 hT with g | g
      · exact hq T g
      · rw [List.mem_singleton] at g
        subst g
        have := hk a (by simp)
        rw [dTo_ne h] at this
        intro e
        rw [e] at this
        cases this
theorem dQ_ne (h : MOk L k M) (hz : z ≠ []) : ∀ i, ∀ T ∈ dQ L M z i, T ≠ []
  | 0 => fun T hT => by simp only [dQ, List.mem_singleton] at hT; subst hT; exact hz
  | i + 1 => by
    rw [dQ]
    split
    · exact fold_ne h _ (fun a ha => ((outL_iff _ _).1 ha).choose_spec.2.2) (dQ_ne h hz i)
    · exact dQ_ne h hz i
end
end Go.Proofs.Ytbhjmioegdgpnaa
