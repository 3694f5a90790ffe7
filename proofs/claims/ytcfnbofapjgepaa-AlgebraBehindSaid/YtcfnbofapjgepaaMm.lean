/-
  Classes and words: two states have one class, just if the same words lead from them to an end.
-/
import Derived.Test.YtcfnbofapjgepaaKm
import Derived.Test.YtcfnbofapjgepaaShLaw
namespace Go.Proofs.Ytcfnbofapjgepaa
open Go.Ab
set_option linter.unusedSimpArgs false
set_option linter.unusedVariables false

theorem getE {l : List Int} {a : Nat} (h : a < l.length) : l[a] = l.getD a 0 := by simp [List.getD, List.getElem?_eq_getElem h]
theorem toD_neg {N : List (List Int)} {s a : Int} (h : s < 0) : toD N s a = -1 := by unfold toD; rw [if_pos (.inl h)]
theorem ends_cons {F : List Bool} {N : List (List Int)} (s a : Int) (w : List Int) : endsD F N s (a :: w) = endsD F N (toD N s a) w := by
  unfold endsD
  rw [runD]
  by_cases h : s < 0
  · rw [if_pos h, toD_neg h, runD_neg (by decide)]
    simp [show ¬ 0 ≤ s by omega]
  · rw [if_neg h]
theorem ends_neg {F : List Bool} {N : List (List Int)} {s : Int} (h : s < 0) (w : List Int) : endsD F N s w = false := by
  unfold endsD
  rw [runD_neg h]
  simp [show ¬ 0 ≤ s by omega]
section
variable {L k : Nat} {N : List (List Int)} {F : List Bool}
theorem NOk.bnd (h : NOk L k N) (s : Nat) : ∀ t ∈ N.getD s [], t < (N.length : Int) := fun t ht => by
  rcases Nat.lt_or_ge s k with q | q
  · have := (h.get q).2 t ht
    have := h.len
    omega
  · simp [List.getD, List.getElem?_eq_none (show N.length ≤ s by have := h.len; omega)] at ht
theorem live_word (h : NOk L k N) (hF : F.length = k) {s : Nat} (hs : s < k) : (liveL F N).getD s false = true ↔ ∃ w, endsD F N s w = true := by
  have hl := h.len
  rw [live_iff (by omega) h.bnd (by omega)]
  constructor
  · exact run_of_lv (by omega)
  · rintro ⟨w, hw⟩
    have := lv_of_run (by omega) hw
    simpa using this
theorem dead_word (h : NOk L k N) (hF : F.length = k) {s : Nat} (hs : s < k) (hd : (liveL F N).getD s false = false) (w : List Int) : endsD F N s w = false := by
  cases he : endsD F N s w
  · rfl
  · have := (live_word h hF hs).2 ⟨w, he⟩
    rw [hd] at this; cases this
/-- Where an interaction leads, by places. -/
theorem toD_at (h : NOk L k N) {s : Nat} (hs : s < k) {a : Int} (ha : 0 ≤ a ∧ a < (L : Int)) : toD N s a = (N.getD s []).getD a.toNat 0 := by
  unfold toD
  rw [if_neg, Int.toNat_natCast]
  have h1 := h.len
  have h2 := (h.get hs).1
  rw [Int.toNat_natCast, h2]
  omega
theorem toD_far (h : NOk L k N) {s : Nat} (hs : s < k) {a : Int} (ha : ¬ (0 ≤ a ∧ a < (L : Int))) : toD N s a = -1 := by
  unfold toD
  rw [if_pos]
  have h2 := (h.get hs).1
  rw [Int.toNat_natCast, h2]
  omega
theorem kTo_neg {lv : List Bool} {c : List Int} {t : Int} (h : t < 0) : kTo lv c t = -1 := by
  unfold kTo
  rw [if_neg]
  simp only [Bool.and_eq_true, decide_eq_true_eq]
  omega
theorem kTo_to {lv : List Bool} {c : List Int} (h : NOk L k N) {i j : Nat} (hi : i < k) (hj : j < k) (hk : keyL N lv c i = keyL N lv c j) (a : Int) : kTo lv c (toD N i a) = kTo lv c (toD N j a) := by
  by_cases ha : 0 ≤ a ∧ a < (L : Int)
  · rw [toD_at h hi ha, toD_at h hj ha]
    unfold keyL at hk
    have e := (List.cons.inj hk).2
    have e2 := congrArg (fun l : List Int => l[a.toNat]?) e
    simp only [List.getElem?_map] at e2
    have l1 := (h.get hi).1
    have l2 := (h.get hj).1
    generalize N.getD i [] = u at *
    generalize N.getD j [] = v at *
    rw [List.getElem?_eq_getElem (by omega), List.getElem?_eq_getElem (by omega)] at e2
    simp only [Option.map_some, Option.some.injEq] at e2
    simp only [List.getD]
    rw [List.getElem?_eq_getElem (by omega), List.getElem?_eq_getElem (by omega)]
    exact e2
  · rw [toD_far h hi ha, toD_far h hj ha]

theorem clsF_get (h : NOk L k N) (hF : F.length = k) {i : Nat} (hi : i < k) : (clsF F N).getD i 0 = refI N (liveL F N) (clsF F N) i := by
  have hl := h.len
  have e := clsF_fix (F := F) (N := N) (by omega)
  have e2 := refL_get (N := N) (lv := liveL F N) (c := clsF F N) (i := i) (by omega)
  rw [e] at e2; exact e2
theorem clsF_live (h : NOk L k N) (hF : F.length = k) {i : Nat} (hi : i < k) : (liveL F N).getD i false = true ↔ 0 ≤ (clsF F N).getD i 0 := by
  rw [clsF_get h hF hi]
  cases hq : (liveL F N).getD i false
  · rw [refI_dead hq]; simp
  · rw [refI, if_pos hq]; simp
theorem clsF_key (h : NOk L k N) (hF : F.length = k) {i j : Nat} (hi : i < k) (hj : j < k) (li : (liveL F N).getD i false = true) (lj : (liveL F N).getD j false = true) : (clsF F N).getD i 0 = (clsF F N).getD j 0 ↔ keyL N (liveL F N) (clsF F N) i = keyL N (liveL F N) (clsF F N) j := by
  have hl := h.len
  rw [clsF_get h hF hi, clsF_get h hF hj, refI_same (by omega) (by omega) li lj]
theorem clsR_get0 {i : Nat} (hi : i < F.length) : (clsR F N 0).getD i 0 = if (liveL F N).getD i false = true then (if F.getD i false = true then 1 else 0) else -1 := by
  simp [clsR, cls0, List.getD, hi]
theorem clsR_fin (h : NOk L k N) (hF : F.length = k) {i j : Nat} (hi : i < k) (hj : j < k) (li : (liveL F N).getD i false = true) (lj : (liveL F N).getD j false = true) : ∀ r, (clsR F N r).getD i 0 = (clsR F N r).getD j 0 → F.getD i false = F.getD j false
  | 0, e => by
    rw [clsR_get0 (by omega), clsR_get0 (by omega), if_pos li, if_pos lj] at e
    cases h1 : F.getD i false <;> cases h2 : F.getD j false <;> simp only [h1, h2, if_true, Bool.false_eq_true, if_false] at e ⊢ <;> omega
  | r + 1, e => by
    have hl := h.len
    rw [clsR, refL_get (by omega), refL_get (by omega), refI_same (by omega) (by omega) li lj] at e
    exact clsR_fin h hF hi hj li lj r (List.cons.inj e).1
/-- One class: the same words. -/
theorem lang_of_cls (h : NOk L k N) (hF : F.length = k) : ∀ (w : List Int) (i j : Nat), i < k → j < k → (liveL F N).getD i false = true → (liveL F N).getD j false = true → (clsF F N).getD i 0 = (clsF F N).getD j 0 → endsD F N i w = endsD F N j w
  | [], i, j, hi, hj, li, lj, e => by
    have := clsR_fin h hF hi hj li lj (F.length + 2) e
    simp only [endsD, runD, Int.toNat_natCast, this]
    simp
  | a :: w, i, j, hi, hj, li, lj, e => by
    rw [ends_cons, ends_cons]
    have hk := kTo_to h hi hj ((clsF_key h hF hi hj li lj).1 e) a
    have b1 := toD_ok h (i : Int) a
    have b2 := toD_ok h (j : Int) a
    generalize toD N i a = s at *
    generalize toD N j a = t at *
    have key : ∀ s : Int, (-1 ≤ s ∧ s < (k : Int) ∨ s = -1) → (kTo (liveL F N) (clsF F N) s = -1 ∧ endsD F N s w = false) ∨ ∃ n : Nat, s = (n : Int) ∧ n < k ∧ (liveL F N).getD n false = true ∧ kTo (liveL F N) (clsF F N) s = (clsF F N).getD n 0 := fun s hs => by
      by_cases h0 : s < 0
      · exact .inl ⟨kTo_neg h0, ends_neg h0 w⟩
      · obtain ⟨n, rfl⟩ := Int.eq_ofNat_of_zero_le (Int.not_lt.1 h0)
        have hn : n < k := by omega
        cases hq : (liveL F N).getD n false
        · refine .inl ⟨?_, dead_word h hF hn hq w⟩
          unfold kTo
          rw [Int.toNat_natCast, hq, Bool.and_false, if_neg (by simp)]
        · refine .inr ⟨n, rfl, hn, hq, ?_⟩
          unfold kTo
          rw [Int.toNat_natCast, hq, if_pos (by simp)]
    rcases key s b1 with ⟨k1, e1⟩ | ⟨n, rfl, n1, n2, k1⟩
    · rcases key t b2 with ⟨k2, e2⟩ | ⟨m, rfl, m1, m2, k2⟩
      · rw [e1, e2]
      · have := (clsF_live h hF m1).1 m2
        omega
    · rcases key t b2 with ⟨k2, e2⟩ | ⟨m, rfl, m1, m2, k2⟩
      · have := (clsF_live h hF n1).1 n2
        omega
      · exact lang_of_cls h hF w n m n1 m1 n2 m2 (by omega)
/-- The same words: one class. -/
theorem cls_of_lang (h : NOk L k N) (hF : F.length = k) : ∀ (r : Nat) (i j : Nat), i < k → j < k → (liveL F N).getD i false = true → (liveL F N).getD j false = true → (∀ w, endsD F N i w = endsD F N j w) → (clsR F N r).getD i 0 = (clsR F N r).getD j 0
  | 0, i, j, hi, hj, li, lj, e => by
    rw [clsR_get0 (by omega), clsR_get0 (by omega), if_pos li, if_pos lj]
    have f : ∀ s : Nat, endsD F N s [] = F.getD s false := fun s => by
      simp only [endsD, runD, Int.toNat_natCast]; simp
    have := e []
    rw [f, f] at this
    rw [this]
  | r + 1, i, j, hi, hj, li, lj, e => by
    have hl := h.len
    rw [clsR, refL_get (by omega), refL_get (by omega), refI_same (by omega) (by omega) li lj]
    unfold keyL
    rw [cls_of_lang h hF r i j hi hj li lj e]
    congr 1
    have l1 := (h.get hi).1
    have l2 := (h.get hj).1
    apply List.ext_getElem
    · simp only [List.length_map]; omega
    · intro a h1 h2
      have ha : a < L := by rw [List.length_map] at h1; omega
      have t1 := toD_at h hi (a := (a : Int)) ⟨by omega, by omega⟩
      have t2 := toD_at h hj (a := (a : Int)) ⟨by omega, by omega⟩
      rw [Int.toNat_natCast] at t1 t2
      have b1 := toD_ok h (i : Int) (a : Int)
      have b2 := toD_ok h (j : Int) (a : Int)
      have hw : ∀ w, endsD F N (toD N i a) w = endsD F N (toD N j a) w := fun w => by rw [← ends_cons, ← ends_cons]; exact e _
      have x1 : (N.getD i [])[a]'(by omega) = toD N i a := by rw [t1]; exact getE _
      have x2 : (N.getD j [])[a]'(by omega) = toD N j a := by rw [t2]; exact getE _
      rw [List.getElem_map, List.getElem_map, x1, x2]
      generalize toD N i a = s at *
      generalize toD N j a = t at *
      have key : ∀ s : Int, (-1 ≤ s ∧ s < (k : Int) ∨ s = -1) → (kTo (liveL F N) (clsR F N r) s = -1 ∧ ∀ w, endsD F N s w = false) ∨ ∃ n : Nat, s = (n : Int) ∧ n < k ∧ (liveL F N).getD n false = true ∧ kTo (liveL F N) (clsR F N r) s = (clsR F N r).getD n 0 := fun s hs => by
        by_cases h0 : s < 0
        · exact .inl ⟨kTo_neg h0, ends_neg h0⟩
        · obtain ⟨n, rfl⟩ := Int.eq_ofNat_of_zero_le (Int.not_lt.1 h0)
          have hn : n < k := by omega
          cases hq : (liveL F N).getD n false
          · refine .inl ⟨?_, dead_word h hF hn hq⟩
            unfold kTo
            rw [Int.toNat_natCast, hq, Bool.and_false, if_neg (by simp)]
          · refine .inr ⟨n, rfl, hn, hq, ?_⟩
            unfold kTo
            rw [Int.toNat_natCast, hq, if_pos (by simp)]
      rcases key s b1 with ⟨k1, e1⟩ | ⟨n, rfl, n1, n2, k1⟩
      · rcases key t b2 with ⟨k2, e2⟩ | ⟨m, rfl, m1, m2, k2⟩
        · rw [k1, k2]
        · obtain ⟨w, hx⟩ := (live_word h hF m1).1 m2
          rw [← hw, e1] at hx; cases hx
      · rcases key t b2 with ⟨k2, e2⟩ | ⟨m, rfl, m1, m2, k2⟩
        · obtain ⟨w, hx⟩ := (live_word h hF n1).1 n2
          rw [hw, e2] at hx; cases hx
        · rw [k1, k2]
          exact cls_of_lang h hF r n m n1 m1 n2 m2 hw
end

end Go.Proofs.Ytcfnbofapjgepaa
