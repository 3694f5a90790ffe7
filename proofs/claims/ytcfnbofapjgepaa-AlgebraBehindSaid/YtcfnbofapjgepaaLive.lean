/-
  Plain facts: from which states it may end, by sweeps.
-/
import Derived.Test.YtcfnbofapjgepaaDat
namespace Go.Proofs.Ytcfnbofapjgepaa
open Go.Ab
set_option linter.unusedSimpArgs false
set_option linter.unusedVariables false

/-- One state of a sweep. -/
def swp1 (N : List (List Int)) (o : List Bool) (i : Nat) : List Bool := if ((N.getD i []).any fun s => decide (s ≥ 0) && o.getD s.toNat false) = true then o.set i true else o
/-- So many states of a sweep. -/
def swpS (N : List (List Int)) (o : List Bool) : Nat → List Bool
  | 0 => o
  | i + 1 => swp1 N (swpS N o i) i
def swp (N : List (List Int)) (o : List Bool) : List Bool := swpS N o N.length
def swpI (N : List (List Int)) (o : List Bool) : Nat → List Bool
  | 0 => o
  | r + 1 => swp N (swpI N o r)
/-- From which states it may end. -/
def liveL (F : List Bool) (N : List (List Int)) : List Bool := swpI N F F.length

theorem swp1_len (N : List (List Int)) (o : List Bool) (i : Nat) : (swp1 N o i).length = o.length := by
  unfold swp1; split <;> simp
theorem swpS_len (N : List (List Int)) (o : List Bool) : ∀ i, (swpS N o i).length = o.length
  | 0 => rfl
  | i + 1 => by rw [swpS, swp1_len, swpS_len N o i]
theorem swp_len (N : List (List Int)) (o : List Bool) : (swp N o).length = o.length := swpS_len N o _
theorem swpI_len (N : List (List Int)) (o : List Bool) : ∀ r, (swpI N o r).length = o.length
  | 0 => rfl
  | r + 1 => by rw [swpI, swp_len, swpI_len N o r]

def bleB (o p : List Bool) : Prop := o.length = p.length ∧ ∀ j, o.getD j false = true → p.getD j false = true
theorem bleB_refl (o : List Bool) : bleB o o := ⟨rfl, fun _ h => h⟩
theorem bleB_trans {o p q : List Bool} (h : bleB o p) (k : bleB p q) : bleB o q := ⟨h.1.trans k.1, fun j g => k.2 j (h.2 j g)⟩
theorem set_ble (o : List Bool) (i : Nat) : bleB o (o.set i true) := by
  refine ⟨by simp, fun j h => ?_⟩
  simp only [List.getD, List.getElem?_set] at h ⊢
  split
  · split
    · rfl
    · rename_i h1 h2
      rw [List.getElem?_eq_none (by omega)] at h; cases h
  · exact h
theorem swp1_ble (N : List (List Int)) (o : List Bool) (i : Nat) : bleB o (swp1 N o i) := by
  unfold swp1; split
  · exact set_ble o i
  · exact bleB_refl o
theorem swpS_ble (N : List (List Int)) (o : List Bool) : ∀ i, bleB o (swpS N o i)
  | 0 => bleB_refl o
  | i + 1 => bleB_trans (swpS_ble N o i) (swp1_ble N _ i)
theorem swp_ble (N : List (List Int)) (o : List Bool) : bleB o (swp N o) := swpS_ble N o _
theorem swpI_ble (N : List (List Int)) (o : List Bool) : ∀ r, bleB o (swpI N o r)
  | 0 => bleB_refl o
  | r + 1 => bleB_trans (swpI_ble N o r) (swp_ble N _)

theorem ble_count : ∀ {o p : List Bool}, bleB o p → o.count true ≤ p.count true ∧ (o.count true = p.count true → o = p)
  | [], [], _ => ⟨Nat.le_refl _, fun _ => rfl⟩
  | [], _ :: _, h => by have := h.1; simp at this
  | _ :: _, [], h => by have := h.1; simp at this
  | a :: o, b :: p, h => by
    have h1 : bleB o p := ⟨by have := h.1; simpa using this, fun j g => by have := h.2 (j + 1); simpa using this (by simpa using g)⟩
    obtain ⟨g1, g2⟩ := ble_count h1
    have h0 : a = true → b = true := by have := h.2 0; simpa using this
    cases a <;> cases b
    · simp only [List.count_cons]; refine ⟨by simpa using g1, fun e => ?_⟩
      rw [g2 (by simpa using e)]
    · simp only [List.count_cons]
      refine ⟨by simp; omega, fun e => ?_⟩
      simp at e; omega
    · cases h0 rfl
    · simp only [List.count_cons]; refine ⟨by simpa using g1, fun e => ?_⟩
      rw [g2 (by simpa using e)]

theorem swpI_stable {N : List (List Int)} {o : List Bool} {r : Nat} (h : swp N (swpI N o r) = swpI N o r) : ∀ k, swpI N o (r + k) = swpI N o r
  | 0 => rfl
  | k + 1 => by rw [← Nat.add_assoc, swpI, swpI_stable h k, h]
theorem swpI_grows {N : List (List Int)} {o : List Bool} : ∀ r, (∃ q, q ≤ r ∧ swp N (swpI N o q) = swpI N o q) ∨ r + 1 ≤ (swpI N o (r + 1)).count true
  | 0 => by
    by_cases h : swp N (swpI N o 0) = swpI N o 0
    · exact .inl ⟨0, Nat.le_refl _, h⟩
    · right
      have hb := ble_count (swp_ble N (swpI N o 0))
      have : (swpI N o 0).count true ≠ (swp N (swpI N o 0)).count true := fun e => h (hb.2 e).symm
      have e : swpI N o (0 + 1) = swp N (swpI N o 0) := rfl
      rw [e]; omega
  | r + 1 => by
    rcases swpI_grows (N := N) (o := o) r with ⟨q, h1, h2⟩ | h
    · exact .inl ⟨q, by omega, h2⟩
    · by_cases hs : swp N (swpI N o (r + 1)) = swpI N o (r + 1)
      · exact .inl ⟨r + 1, Nat.le_refl _, hs⟩
      · right
        have hb := ble_count (swp_ble N (swpI N o (r + 1)))
        have : (swpI N o (r + 1)).count true ≠ (swp N (swpI N o (r + 1))).count true := fun e => hs (hb.2 e).symm
        have e : swpI N o (r + 1 + 1) = swp N (swpI N o (r + 1)) := rfl
        rw [e]; omega
theorem liveL_stable (F : List Bool) (N : List (List Int)) : swp N (liveL F N) = liveL F N := by
  have key : ∃ q, q ≤ F.length ∧ swp N (swpI N F q) = swpI N F q := by
    rcases swpI_grows (N := N) (o := F) F.length with h | h
    · exact h
    · exfalso
      have h1 := List.count_le_length (a := true) (l := swpI N F (F.length + 1))
      rw [swpI_len] at h1; omega
  obtain ⟨q, h1, h2⟩ := key
  have := swpI_stable h2 (F.length - q)
  rw [show q + (F.length - q) = F.length by omega] at this
  unfold liveL
  rw [this]; exact h2
/-- Whichever sweep changes nothing: it is all. -/
theorem liveL_of {F : List Bool} {N : List (List Int)} {r : Nat} (h : swp N (swpI N F r) = swpI N F r) : swpI N F r = liveL F N := by
  have h2 := liveL_stable F N
  rcases Nat.le_total r F.length with q | q
  · have := swpI_stable h (F.length - r)
    rw [show r + (F.length - r) = F.length by omega] at this
    exact this.symm
  · have := swpI_stable (r := F.length) h2 (r - F.length)
    rw [show F.length + (r - F.length) = r by omega] at this
    exact this

theorem liveL_len (F : List Bool) (N : List (List Int)) : (liveL F N).length = F.length := swpI_len N F _
theorem liveL_fin {F : List Bool} {N : List (List Int)} {s : Nat} (h : F.getD s false = true) : (liveL F N).getD s false = true := (swpI_ble N F _).2 s h
theorem swpS_eq {N : List (List Int)} {o : List Bool} (h : swp N o = o) : ∀ i, i ≤ N.length → swpS N o i = o := by
  intro i hi
  have h1 : bleB o (swpS N o i) := swpS_ble N o i
  have h2 : ∀ k, bleB (swpS N o i) (swpS N o (i + k)) := fun k => by
    induction k with
    | zero => exact bleB_refl _
    | succ k ih => exact bleB_trans ih (swp1_ble N _ _)
  have h3 := h2 (N.length - i)
  rw [show i + (N.length - i) = N.length by omega, show swpS N o N.length = o from h] at h3
  have c1 := ble_count h1
  have c2 := ble_count h3
  exact (c1.2 (by omega)).symm
/-- What leads to where it may end may end. -/
theorem liveL_step {F : List Bool} {N : List (List Int)} {s : Nat} {t : Int} (hs : s < N.length) (hl : N.length = F.length) (hm : t ∈ N.getD s []) (h0 : 0 ≤ t) (ht : (liveL F N).getD t.toNat false = true) : (liveL F N).getD s false = true := by
  have h1 := swpS_eq (liveL_stable F N) s (by omega)
  have h2 := swpS_eq (liveL_stable F N) (s + 1) (by omega)
  rw [swpS, h1, swp1, if_pos (by rw [List.any_eq_true]; exact ⟨t, hm, by rw [ht, Bool.and_true]; simpa using h0⟩)] at h2
  rw [← h2]
  have hsl : s < (liveL F N).length := by rw [liveL_len]; omega
  simp [List.getD, List.getElem?_set, hsl]

/-- A way to an end. -/
inductive Lv (F : List Bool) (N : List (List Int)) : Nat → Prop
  | fin {s : Nat} (h : F.getD s false = true) : Lv F N s
  | step {s : Nat} {t : Int} (hm : t ∈ N.getD s []) (h0 : 0 ≤ t) (h : Lv F N t.toNat) : Lv F N s
theorem swp1_lv {F : List Bool} {N : List (List Int)} {o : List Bool} {i : Nat} (h : ∀ j, o.getD j false = true → Lv F N j) : ∀ j, (swp1 N o i).getD j false = true → Lv F N j := by
  intro j hj
  unfold swp1 at hj
  split at hj
  · rename_i ha
    by_cases hij : i = j
    · subst hij
      obtain ⟨t, ht, hp⟩ := List.any_eq_true.1 ha
      simp only [Bool.and_eq_true, decide_eq_true_eq] at hp
      exact .step ht hp.1 (h _ hp.2)
    · simp only [List.getD, List.getElem?_set_ne hij] at hj
      exact h j hj
  · exact h j hj
theorem swpS_lv {F : List Bool} {N : List (List Int)} {o : List Bool} (h : ∀ j, o.getD j false = true → Lv F N j) : ∀ i j, (swpS N o i).getD j false = true → Lv F N j
  | 0 => h
  | i + 1 => swp1_lv (swpS_lv h i)
theorem swpI_lv {F : List Bool} {N : List (List Int)} : ∀ r j, (swpI N F r).getD j false = true → Lv F N j
  | 0 => fun _ h => .fin h
  | r + 1 => swpS_lv (swpI_lv r) _
theorem liveL_lv {F : List Bool} {N : List (List Int)} {s : Nat} (h : (liveL F N).getD s false = true) : Lv F N s := swpI_lv _ s h

end Go.Proofs.Ytcfnbofapjgepaa
