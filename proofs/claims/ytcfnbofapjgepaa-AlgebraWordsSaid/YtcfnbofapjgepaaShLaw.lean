/-
  Shortest words, and how many there are: plain facts.
-/
import Derived.Test.YtcfnbofapjgepaaCt
import Derived.Test.YtcfnbofapjgepaaWd
namespace Go.Proofs.Ytcfnbofapjgepaa
open Go.Ab
set_option linter.unusedSimpArgs false
set_option linter.unusedVariables false

theorem nInts_app (u v : List Nat) : nInts (u ++ v) = nInts u ++ nInts v := by simp [nInts]
/-- Words by number: so many shorter ones. -/
def base (L : Nat) : Nat → Nat
  | 0 => 0
  | n + 1 => base L n * L + 1
theorem flatMap_get {α β : Type} (g : α → List β) (L : Nat) : ∀ (l : List α), (∀ x ∈ l, (g x).length = L) → ∀ i a, i < l.length → a < L → ∀ d e, (l.flatMap g).getD (i * L + a) e = (g (l.getD i d)).getD a e
  | [], _, i, a, hi, _, _, _ => by simp at hi
  | x :: l, hl, 0, a, hi, ha, d, e => by
    have h1 := hl x (by simp)
    rw [List.flatMap_cons, Nat.zero_mul, Nat.zero_add, getD_app_lt (by omega), List.getD_cons_zero]
  | x :: l, hl, i + 1, a, hi, ha, d, e => by
    have h1 := hl x (by simp)
    have h2 := flatMap_get g L l (fun y hy => hl y (by simp [hy])) i a (by simpa using hi) ha d e
    rw [List.flatMap_cons, List.getD_cons_succ, ← h2]
    simp only [List.getD]
    rw [List.getElem?_append_right (by rw [h1, Nat.add_mul, Nat.one_mul]; omega), h1]
    congr 2
    rw [Nat.add_mul, Nat.one_mul]; omega
/-- The words of a length, by number. -/
theorem wordsL_code {L : Nat} : ∀ (n i : Nat), i < (wordsL L n).length → ∃ v : List Nat, (wordsL L n).getD i [] = nInts v ∧ (∀ x ∈ v, x < L) ∧ v.length = n ∧ cde L v = base L n + i
  | 0, i, hi => by
    simp only [wordsL, List.length_singleton] at hi
    obtain rfl : i = 0 := by omega
    exact ⟨[], rfl, by simp, rfl, rfl⟩
  | n + 1, i, hi => by
    have hL : 0 < L := by
      rcases Nat.eq_zero_or_pos L with rfl | h
      · rw [wordsL_len, Nat.pow_succ, Nat.mul_zero] at hi; omega
      · exact h
    have hq : i / L < (wordsL L n).length := by
      rw [wordsL_len, Nat.pow_succ] at hi
      rw [wordsL_len]
      exact Nat.div_lt_of_lt_mul (by rw [Nat.mul_comm]; exact hi)
    have hm : i % L < L := Nat.mod_lt _ hL
    obtain ⟨v, h1, h2, h3, h4⟩ := wordsL_code n (i / L) hq
    have hi' : i / L * L + i % L = i := by rw [Nat.mul_comm]; exact Nat.div_add_mod i L
    have hg := flatMap_get (fun w : List Int => (List.range L).map fun (a : Nat) => w ++ [(a : Int)]) L (wordsL L n) (fun x _ => by simp) (i / L) (i % L) hq hm [] []
    rw [hi'] at hg
    refine ⟨v ++ [i % L], ?_, ?_, by simp [h3], ?_⟩
    · rw [wordsL, hg, h1, nInts_app]
      simp [List.getD, hm, nInts]
    · intro x hx
      rcases List.mem_append.1 hx with q | q
      · exact h2 x q
      · rw [List.mem_singleton.1 q]; exact hm
    · rw [cde_snoc, h4, base, Nat.add_mul]; omega
/-- A word's number, by its length. -/
theorem cde_len {L : Nat} : ∀ (v : List Nat), (∀ x ∈ v, x < L) → base L v.length ≤ cde L v ∧ cde L v < base L (v.length + 1) := by
  intro v
  refine snoc_ind (p := fun v => (∀ x ∈ v, x < L) → base L v.length ≤ cde L v ∧ cde L v < base L (v.length + 1)) ?_ ?_ v
  · intro _; exact ⟨Nat.le_refl _, by simp [base, cde]⟩
  · intro v x ih hv
    obtain ⟨h1, h2⟩ := ih fun y hy => hv y (by simp [hy])
    have hx := hv x (by simp)
    rw [cde_snoc, List.length_append]
    have e : base L (v.length + [x].length) = base L v.length * L + 1 := rfl
    have e2 : base L (v.length + [x].length + 1) = base L (v.length + 1) * L + 1 := rfl
    rw [e, e2]
    have m1 := Nat.mul_le_mul h1 (Nat.le_refl L)
    have m2 : (cde L v + 1) * L ≤ base L (v.length + 1) * L := Nat.mul_le_mul h2 (Nat.le_refl L)
    rw [Nat.add_mul, Nat.one_mul] at m2
    omega
theorem words_code {L : Nat} {v : List Nat} (hv : ∀ x ∈ v, x < L) : ∃ i, i < (wordsL L v.length).length ∧ (wordsL L v.length).getD i [] = nInts v ∧ cde L v = base L v.length + i := by
  have hm : nInts v ∈ wordsL L v.length := wordsL_mem.2 ⟨by simp [nInts], fun x hx => by
    simp only [nInts, List.mem_map] at hx
    obtain ⟨y, hy, rfl⟩ := hx
    have := hv y hy; omega⟩
  obtain ⟨i, hi, he⟩ := List.getElem_of_mem hm
  obtain ⟨v', h1, h2, h3, h4⟩ := wordsL_code v.length i hi
  have hg : (wordsL L v.length).getD i [] = nInts v := by rw [← he]; simp [List.getD, List.getElem?_eq_getElem hi]
  have hv' : v' = v := by
    rw [hg] at h1
    have : ∀ a b : List Nat, nInts a = nInts b → a = b := fun a b e => by
      have := congrArg (List.map Int.toNat) e
      simpa [nInts, Function.comp_def] using this
    exact (this _ _ h1).symm
  rw [hv'] at h4
  exact ⟨i, hi, hg, h4⟩

/-- Runs of words of numbers. -/
theorem run1 {N : List (List Int)} : ∀ (w : List Nat) (s : Int), 0 ≤ s → (∀ t, bRun (ch1 N) (s, 0) w = some t → t = (runD N s (nInts w), 0) ∧ 0 ≤ runD N s (nInts w)) ∧ (bRun (ch1 N) (s, 0) w = none → runD N s (nInts w) < 0)
  | [], s, hs => ⟨fun t h => by simp only [bRun, Option.some.injEq] at h; subst h; exact ⟨rfl, hs⟩, fun h => by cases h⟩
  | x :: w, s, hs => by
    have e : runD N s (nInts (x :: w)) = runD N (toD N s x) (nInts w) := by
      rw [show nInts (x :: w) = (x : Int) :: nInts w from rfl, runD, if_neg (by omega)]
    rw [e]
    simp only [bRun, ch1]
    by_cases h0 : 0 ≤ toD N s x
    · rw [if_pos h0, Option.bind_some]
      exact run1 w _ h0
    · rw [if_neg h0]
      exact ⟨fun t h => (by cases h), fun _ => by rw [runD_neg (by omega)]; omega⟩
theorem ends1 {F : List Bool} {N : List (List Int)} {s : Int} (hs : 0 ≤ s) (w : List Nat) : endsD F N s (nInts w) = true ↔ ∃ t, bRun (ch1 N) (s, 0) w = some t ∧ fin1 F t = true := by
  obtain ⟨h1, h2⟩ := run1 (N := N) w s hs
  cases hb : bRun (ch1 N) (s, 0) w with
  | none =>
    have := h2 hb
    simp only [endsD]
    constructor
    · intro q; simp only [Bool.and_eq_true, decide_eq_true_eq] at q; omega
    · rintro ⟨t, q, _⟩; cases q
  | some t =>
    obtain ⟨e, h0⟩ := h1 t hb
    subst e
    constructor
    · intro q; exact ⟨_, rfl, q⟩
    · rintro ⟨t, q, q2⟩; cases q; exact q2
/-- A word that is taken has interactions alone. -/
theorem ends_nat {L k : Nat} {F : List Bool} {N : List (List Int)} (h : NOk L k N) : ∀ (w : List Int) (s : Int), 0 ≤ s → endsD F N s w = true → ∃ v : List Nat, w = nInts v ∧ ∀ x ∈ v, x < L
  | [], s, _, _ => ⟨[], rfl, by simp⟩
  | x :: w, s, hs, he => by
    have hr : runD N s (x :: w) = runD N (toD N s x) w := by rw [runD, if_neg (by omega)]
    have he' : endsD F N (toD N s x) w = true := by unfold endsD at he ⊢; rw [hr] at he; exact he
    have h0 : 0 ≤ toD N s x := by
      rcases Int.lt_or_le (toD N s x) 0 with q | q
      · simp only [endsD, runD_neg q, Bool.and_eq_true, decide_eq_true_eq] at he'; omega
      · exact q
    have hx : 0 ≤ x ∧ x < (L : Int) := by
      refine Classical.byContradiction fun hn => ?_
      rw [toD_bad h hs (by omega)] at h0; omega
    obtain ⟨v, h1, h2⟩ := ends_nat h w _ h0 he'
    obtain ⟨y, rfl⟩ := Int.eq_ofNat_of_zero_le hx.1
    refine ⟨y :: v, by rw [h1]; rfl, fun z hz => ?_⟩
    rcases List.mem_cons.1 hz with q | q
    · subst q; omega
    · exact h2 z q

theorem wordQ_len (z : S2) (q : List (QE S2)) : ∀ n j, (wordQ z q n j).length ≤ n
  | 0, _ => Nat.le_refl _
  | n + 1, j => by
    rw [wordQ]
    split
    · simp
    · have := wordQ_len z q n (q.getD j (z, -1, -1)).2.1.toNat
      rw [List.length_append, List.length_singleton]; omega
/-- What the search comes to. -/
theorem srch_spec {ch : S2 → Nat → Option S2} {z : S2} {L : Nat} {fin : S2 → Bool} (B : Nat) (hB : ∀ q i c, BInv ch z L q i c → q.length ≤ B) : ∀ (n i : Nat), (∀ j, j < i → j < (bQ ch z L j).length) → (∀ j, j < i → fin ((bQ ch z L i).getD j (z, -1, -1)).1 = false) → i ≤ (bQ ch z L i).length → B < n + i →
    (∀ w, srch ch z L fin n i = some w → w.length ≤ B ∧ (∀ x ∈ w, x < L) ∧ (∃ t, bRun ch z w = some t ∧ fin t = true) ∧ ∀ u : List Nat, (∀ x ∈ u, x < L) → (∃ t, bRun ch z u = some t ∧ fin t = true) → cde L w ≤ cde L u) ∧
    (srch ch z L fin n i = none → ∀ u : List Nat, (∀ x ∈ u, x < L) → ¬ ∃ t, bRun ch z u = some t ∧ fin t = true)
  | 0, i, h1, _, h3, h4 => by
    have := hB _ _ _ (bQ_inv i h1); omega
  | n + 1, i, h1, h2, h3, h4 => by
    have hb := bQ_inv i h1
    rw [srch]
    by_cases hi : i < (bQ ch z L i).length
    · rw [if_pos hi]
      cases hf : fin ((bQ ch z L i).getD i (z, -1, -1)).1
      · rw [if_neg (by simp)]
        have hrow := BInv.row hb hi L (Nat.le_refl _)
        refine srch_spec B hB n (i + 1) (fun j hj => ?_) (fun j hj => ?_) ?_ (by omega)
        · rcases Nat.lt_or_ge j i with g | g
          · exact h1 j g
          · obtain rfl : j = i := by omega
            exact hi
        · have e : (bQ ch z L (i + 1)).getD j (z, -1, -1) = (bQ ch z L i).getD j (z, -1, -1) := bRow_get ch z (by omega) L
          rw [e]
          rcases Nat.lt_or_ge j i with g | g
          · exact h2 j g
          · obtain rfl : j = i := by omega
            exact hf
        · exact hrow.2
      · rw [if_pos rfl]
        refine ⟨fun w hw => ?_, fun q => by cases q⟩
        cases hw
        obtain ⟨c1, c2, _⟩ := hb.code (Nat.le_refl _) i hi _ hi (Nat.le_refl _)
        refine ⟨Nat.le_trans (wordQ_len z _ _ _) (hB _ _ _ hb), c1, ⟨_, c2, hf⟩, fun u hu ⟨t, ht, htf⟩ => ?_⟩
        refine Nat.le_of_not_lt fun hlt => ?_
        obtain ⟨j, j1, j2, _⟩ := hb.least h3 u hu t ht (fun _ => hlt)
        have := h2 j j1
        rw [j2, htf] at this; cases this
    · rw [if_neg hi]
      refine ⟨fun w hw => (by cases hw), fun _ u hu ⟨t, ht, htf⟩ => ?_⟩
      obtain ⟨j, j1, j2, _⟩ := hb.least h3 u hu t ht (fun q => absurd q hi)
      have := h2 j j1
      rw [j2, htf] at this; cases this
/-- The shortest word. -/
theorem short_spec {L k : Nat} {N : List (List Int)} (h : NOk L k N) {st : Nat} (hst : st < k) (hk : k ≤ 2000) (F : List Bool) :
    (∀ w, srch (ch1 N) ((st : Int), 0) L (fin1 F) 3000 0 = some w → (∀ x ∈ w, x < L) ∧ endsD F N st (nInts w) = true ∧ ∀ u : List Nat, (∀ x ∈ u, x < L) → endsD F N st (nInts u) = true → cde L w ≤ cde L u) ∧
    (srch (ch1 N) ((st : Int), 0) L (fin1 F) 3000 0 = none → ∀ u : List Int, endsD F N st u = false) := by
  obtain ⟨h1, h2⟩ := srch_spec (ch := ch1 N) (z := ((st : Int), 0)) (L := L) (fin := fin1 F) k (fun q i c hb => ch1_len h hst hb) 3000 0 (by simp) (by simp) (by simp) (by omega)
  have h0 : (0 : Int) ≤ (st : Int) := by simp
  refine ⟨fun w hw => ?_, fun hn u => ?_⟩
  · obtain ⟨_, a, b, c⟩ := h1 w hw
    exact ⟨a, (ends1 h0 w).2 b, fun u hu he => c u hu ((ends1 h0 u).1 he)⟩
  · cases he : endsD F N st u
    · rfl
    · obtain ⟨v, rfl, hv⟩ := ends_nat h u st h0 he
      exact absurd ((ends1 h0 v).1 he) (h2 hn v hv)

theorem short_len {L k : Nat} {N : List (List Int)} (h : NOk L k N) {st : Nat} (hst : st < k) (hk : k ≤ 2000) (F : List Bool) : (shW (srch (ch1 N) ((st : Int), 0) L (fin1 F) 3000 0)).length ≤ k := by
  obtain ⟨h1, _⟩ := srch_spec (ch := ch1 N) (z := ((st : Int), 0)) (L := L) (fin := fin1 F) k (fun q i c hb => ch1_len h hst hb) 3000 0 (by simp) (by simp) (by simp) (by omega)
  cases hR : srch (ch1 N) ((st : Int), 0) L (fin1 F) 3000 0 with
  | none => simp [shW]
  | some w => rw [shW, nInts_len]; exact (h1 w hR).1

end Go.Proofs.Ytcfnbofapjgepaa
