/-
  Whether the same words lead from two states to where it may end: plain facts.
-/
import Derived.Test.YtcfnbofapjgepaaCtLaw
import Derived.Test.YtcfnbofapjgepaaDi
namespace Go.Proofs.Ytcfnbofapjgepaa
open Go.Ab
set_option linter.unusedSimpArgs false
set_option linter.unusedVariables false

theorem base_mono (L : Nat) {a b : Nat} (hab : a ≤ b) : base L a ≤ base L b := by
  induction hab with
  | refl => exact Nat.le_refl _
  | @step m hm ih =>
    have hb : ∀ m, base L m ≤ base L (m + 1) := fun m => by
      induction m with
      | zero => simp [base]
      | succ m ihm =>
        have := Nat.mul_le_mul ihm (Nat.le_refl L)
        rw [base, base]; omega
    exact Nat.le_trans ih (hb _)
theorem base_pow (L : Nat) : ∀ n, base L (n + 1) = base L n + L ^ n
  | 0 => by simp [base]
  | n + 1 => by
    have ih := congrArg (· * L) (base_pow L n)
    simp only [Nat.add_mul] at ih
    have e1 : base L (n + 1 + 1) = base L (n + 1) * L + 1 := rfl
    have e2 : base L (n + 1) = base L n * L + 1 := rfl
    rw [e1, Nat.pow_succ]
    omega
/-- Words up to a length stand by number. -/
theorem uptoL_code {L : Nat} : ∀ n, (uptoL L n).length = base L (n + 1) ∧ ∀ i, i < (uptoL L n).length → ∃ v : List Nat, (uptoL L n).getD i [] = nInts v ∧ (∀ x ∈ v, x < L) ∧ v.length ≤ n ∧ cde L v = i
  | 0 => by
    refine ⟨by simp [uptoL, wordsL, base], fun i hi => ?_⟩
    obtain ⟨v, h1, h2, h3, h4⟩ := wordsL_code (L := L) 0 i hi
    exact ⟨v, h1, h2, by omega, by rw [h4]; simp [base]⟩
  | n + 1 => by
    obtain ⟨hl, hc⟩ := uptoL_code (L := L) n
    have hlen : (uptoL L (n + 1)).length = base L (n + 1 + 1) := by
      rw [uptoL, List.length_append, hl, wordsL_len, base_pow L (n + 1)]
    refine ⟨hlen, fun i hi => ?_⟩
    rw [hlen, base_pow L (n + 1)] at hi
    rcases Nat.lt_or_ge i (uptoL L n).length with g | g
    · obtain ⟨v, h1, h2, h3, h4⟩ := hc i g
      exact ⟨v, by rw [uptoL, getD_app_lt g]; exact h1, h2, by omega, h4⟩
    · have hi2 : i - (uptoL L n).length < (wordsL L (n + 1)).length := by rw [wordsL_len]; omega
      obtain ⟨v, h1, h2, h3, h4⟩ := wordsL_code (L := L) (n + 1) _ hi2
      refine ⟨v, ?_, h2, by omega, by rw [h4, hl]; omega⟩
      rw [uptoL, ← h1]
      simp only [List.getD]
      rw [List.getElem?_append_right g]
theorem nInts_inj {a b : List Nat} (e : nInts a = nInts b) : a = b := by
  have := congrArg (List.map Int.toNat) e
  simpa [nInts, Function.comp_def] using this
/-- A word ahead of another one in that order. -/
theorem upto_before {L n i : Nat} (hi : i < (uptoL L n).length) {w : List Nat} (hw : ∀ x ∈ w, x < L) (hn : n = min w.length 4) (hno : ∀ j, j ≤ i → (uptoL L n).getD j [] ≠ nInts w) : ∃ v : List Nat, (uptoL L n).getD i [] = nInts v ∧ (∀ x ∈ v, x < L) ∧ cde L v < cde L w := by
  obtain ⟨hl, hc⟩ := uptoL_code (L := L) n
  obtain ⟨v, h1, h2, h3, h4⟩ := hc i hi
  refine ⟨v, h1, h2, ?_⟩
  obtain ⟨l1, l2⟩ := cde_len w hw
  rcases Nat.lt_or_ge w.length 5 with g | g
  · have hnw : n = w.length := by omega
    refine Nat.lt_of_not_le fun hle => ?_
    have hj : cde L w < (uptoL L n).length := by omega
    obtain ⟨v', g1, g2, g3, g4⟩ := hc _ hj
    have := cde_inj v' w g2 hw g4
    rw [this] at g1
    exact hno _ (by omega) g1
  · have hn4 : n = 4 := by omega
    have := base_mono L (show n + 1 ≤ w.length by omega)
    omega

/-- What two states' words do. -/
theorem run2 {N M : List (List Int)} : ∀ (w : List Nat) (s t : Int), (∀ p, bRun (ch2 N M) (s, t) w = some p → (0 ≤ runD N s (nInts w) → p.1 = runD N s (nInts w)) ∧ (0 ≤ p.1 → p.1 = runD N s (nInts w)) ∧ (0 ≤ runD M t (nInts w) → p.2 = runD M t (nInts w)) ∧ (0 ≤ p.2 → p.2 = runD M t (nInts w))) ∧
    (bRun (ch2 N M) (s, t) w = none → runD N s (nInts w) < 0 ∧ runD M t (nInts w) < 0)
  | [], s, t => ⟨fun p h => by
      simp only [bRun, Option.some.injEq] at h
      subst h
      exact ⟨fun _ => rfl, fun _ => rfl, fun _ => rfl, fun _ => rfl⟩, fun h => by cases h⟩
  | x :: w, s, t => by
    have e1 : runD N s (nInts (x :: w)) = if s < 0 then s else runD N (toD N s x) (nInts w) := rfl
    have e2 : runD M t (nInts (x :: w)) = if t < 0 then t else runD M (toD M t x) (nInts w) := rfl
    have k1 : (0 ≤ runD N s (nInts (x :: w)) ∨ 0 ≤ runD N (toD N s x) (nInts w)) → runD N s (nInts (x :: w)) = runD N (toD N s x) (nInts w) := fun h => by
      rw [e1] at h ⊢
      by_cases h0 : s < 0
      · rw [if_pos h0] at h
        rw [toD_bad1 N s x (.inl h0), runD_neg (by decide)] at h
        omega
      · rw [if_neg h0]
    have k2 : (0 ≤ runD M t (nInts (x :: w)) ∨ 0 ≤ runD M (toD M t x) (nInts w)) → runD M t (nInts (x :: w)) = runD M (toD M t x) (nInts w) := fun h => by
      rw [e2] at h ⊢
      by_cases h0 : t < 0
      · rw [if_pos h0] at h
        rw [toD_bad1 M t x (.inl h0), runD_neg (by decide)] at h
        omega
      · rw [if_neg h0]
    obtain ⟨i1, i2⟩ := run2 (N := N) (M := M) w (toD N s x) (toD M t x)
    simp only [bRun, ch2]
    by_cases hc : toD N s x < 0 ∧ toD M t x < 0
    · rw [if_pos hc]
      refine ⟨fun p h => (by cases h), fun _ => ⟨?_, ?_⟩⟩
      · rw [e1]
        by_cases h0 : s < 0
        · rw [if_pos h0]; exact h0
        · rw [if_neg h0, runD_neg hc.1]; exact hc.1
      · rw [e2]
        by_cases h0 : t < 0
        · rw [if_pos h0]; exact h0
        · rw [if_neg h0, runD_neg hc.2]; exact hc.2
    · rw [if_neg hc, Option.bind_some]
      refine ⟨fun p h => ?_, fun h => ?_⟩
      · obtain ⟨a1, a2, a3, a4⟩ := i1 p h
        refine ⟨fun q => ?_, fun q => ?_, fun q => ?_, fun q => ?_⟩
        · have := k1 (.inl q); rw [this] at q ⊢; exact a1 q
        · have h1 := a2 q; rw [k1 (.inr (by omega))]; exact h1
        · have := k2 (.inl q); rw [this] at q ⊢; exact a3 q
        · have h1 := a4 q; rw [k2 (.inr (by omega))]; exact h1
      · obtain ⟨b1, b2⟩ := i2 h
        refine ⟨?_, ?_⟩
        · rcases Int.lt_or_le (runD N s (nInts (x :: w))) 0 with q | q
          · exact q
          · rw [k1 (.inl q)] at q; omega
        · rcases Int.lt_or_le (runD M t (nInts (x :: w))) 0 with q | q
          · exact q
          · rw [k2 (.inl q)] at q; omega
theorem finS_of {F : List Bool} {N : List (List Int)} {s z : Int} {w : List Int} (h1 : 0 ≤ runD N s w → z = runD N s w) (h2 : 0 ≤ z → z = runD N s w) : finS F z = endsD F N s w := by
  unfold finS endsD
  rcases Int.lt_or_le z 0 with q | q
  · have q2 : runD N s w < 0 := by
      rcases Int.lt_or_le (runD N s w) 0 with q3 | q3
      · exact q3
      · have := h1 q3; omega
    simp [show ¬ 0 ≤ z by omega, show ¬ 0 ≤ runD N s w by omega]
  · rw [← h2 q]
theorem ends2 {F G : List Bool} {N M : List (List Int)} (s t : Int) (w : List Nat) : (endsD F N s (nInts w) != endsD G M t (nInts w)) = true ↔ ∃ p, bRun (ch2 N M) (s, t) w = some p ∧ fin2 F G p = true := by
  obtain ⟨h1, h2⟩ := run2 (N := N) (M := M) w s t
  cases hb : bRun (ch2 N M) (s, t) w with
  | none =>
    obtain ⟨g1, g2⟩ := h2 hb
    constructor
    · intro q
      simp [endsD, show ¬ 0 ≤ runD N s (nInts w) by omega, show ¬ 0 ≤ runD M t (nInts w) by omega] at q
    · rintro ⟨p, q, _⟩; cases q
  | some p =>
    obtain ⟨g1, g2, g3, g4⟩ := h1 p hb
    have e1 := finS_of (F := F) g1 g2
    have e2 := finS_of (F := G) g3 g4
    constructor
    · intro q; exact ⟨p, rfl, by rw [fin2, e1, e2]; exact q⟩
    · rintro ⟨p', q, q2⟩; cases q; rw [fin2, e1, e2] at q2; exact q2
/-- What one takes and the other one does not. -/
theorem differ_spec {L k m : Nat} {N M : List (List Int)} (h : NOk L k N) (g : NOk L m M) {a b : Nat} (ha : a < k) (hb : b < m) (hkm : (k + 1) * (m + 1) < 16000) (F G : List Bool) :
    (∀ w, srch (ch2 N M) ((a : Int), (b : Int)) L (fin2 F G) 20000 0 = some w → (∀ x ∈ w, x < L) ∧ (endsD F N a (nInts w) != endsD G M b (nInts w)) = true ∧ ∀ u : List Nat, (∀ x ∈ u, x < L) → (endsD F N a (nInts u) != endsD G M b (nInts u)) = true → cde L w ≤ cde L u) ∧
    (srch (ch2 N M) ((a : Int), (b : Int)) L (fin2 F G) 20000 0 = none → ∀ u : List Nat, (∀ x ∈ u, x < L) → (endsD F N a (nInts u) != endsD G M b (nInts u)) = false) ∧
    (shW (srch (ch2 N M) ((a : Int), (b : Int)) L (fin2 F G) 20000 0)).length ≤ 16000 := by
  obtain ⟨h1, h2⟩ := srch_spec (ch := ch2 N M) (z := ((a : Int), (b : Int))) (L := L) (fin := fin2 F G) ((k + 1) * (m + 1)) (fun q i c hb' => ch2_len h g ha hb hb') 20000 0 (by simp) (by simp) (by simp) (by omega)
  refine ⟨fun w hw => ?_, fun hn u hu => ?_, ?_⟩
  · obtain ⟨_, c1, c2, c3⟩ := h1 w hw
    exact ⟨c1, (ends2 _ _ w).2 c2, fun u hu he => c3 u hu ((ends2 _ _ u).1 he)⟩
  · cases he : (endsD F N a (nInts u) != endsD G M b (nInts u))
    · rfl
    · exact absurd ((ends2 _ _ u).1 he) (h2 hn u hu)
  · cases hR : srch (ch2 N M) ((a : Int), (b : Int)) L (fin2 F G) 20000 0 with
    | none => simp [shW]
    | some w => rw [shW, nInts_len]; have := (h1 w hR).1; omega

end Go.Proofs.Ytcfnbofapjgepaa
