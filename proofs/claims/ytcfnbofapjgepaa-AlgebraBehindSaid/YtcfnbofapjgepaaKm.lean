/-
  Classes by rounds: plain functions and facts.
-/
import Derived.Test.YtcfnbofapjgepaaKy
namespace Go.Proofs.Ytcfnbofapjgepaa
open Go.Ab
set_option linter.unusedSimpArgs false
set_option linter.unusedVariables false

/-- Keys by number. -/
def ixM {α : Type} (kf : α → Value) (ks : List α) (n : Nat) : List (Value × Value) := (ks.zipIdx n).map fun p => (kf p.1, .int .i64 (p.2 : Int))
theorem ixM_cons {α : Type} (kf : α → Value) (y : α) (ks : List α) (n : Nat) : ixM kf (y :: ks) n = (kf y, .int .i64 (n : Int)) :: ixM kf ks (n + 1) := by simp [ixM]
theorem ixM_len {α : Type} (kf : α → Value) (ks : List α) (n : Nat) : (ixM kf ks n).length = ks.length := by simp [ixM]
theorem mget_ix {α : Type} [BEq α] [LawfulBEq α] (kf : α → Value) (x : α) : ∀ (ks : List α) (n : Nat), (∀ y ∈ ks, keyEq (kf x) (kf y) = (y == x)) → mget (kf x) (ixM kf ks n) = if ks.contains x = true then some (.int .i64 ((n + ks.idxOf x : Nat) : Int)) else none
  | [], _, _ => rfl
  | y :: ks, n, h => by
    rw [ixM_cons, mget, h y (by simp), mget_ix kf x ks (n + 1) fun z hz => h z (by simp [hz]), List.contains_cons, List.idxOf_cons]
    have e : (x == y) = (y == x) := by rw [Bool.eq_iff_iff, beq_iff_eq, beq_iff_eq]; exact eq_comm
    rw [e]
    cases hq : (y == x)
    · simp only [Bool.false_eq_true, if_false, Bool.false_or, cond_false]
      rw [show n + 1 + ks.idxOf x = n + (ks.idxOf x + 1) by omega]
    · simp
theorem mset_ix {α : Type} [BEq α] [LawfulBEq α] (kf : α → Value) (x : α) : ∀ (ks : List α) (n : Nat), (∀ y ∈ ks, keyEq (kf x) (kf y) = (y == x)) → ks.contains x = false → mset (kf x) (.int .i64 ((n + ks.length : Nat) : Int)) (ixM kf ks n) = ixM kf (ks ++ [x]) n
  | [], n, _, _ => by simp [ixM, mset]
  | y :: ks, n, h, hc => by
    rw [List.contains_cons, Bool.or_eq_false_iff] at hc
    have e : (y == x) = false := by rw [← hc.1, Bool.eq_iff_iff, beq_iff_eq, beq_iff_eq]; exact eq_comm
    rw [ixM_cons, mset, h y (by simp), e, List.cons_append, ixM_cons]
    simp only [Bool.false_eq_true, if_false]
    rw [← mset_ix kf x ks (n + 1) (fun z hz => h z (by simp [hz])) hc.2, List.length_cons, show n + 1 + ks.length = n + (ks.length + 1) by omega]

/-- A list of things, each once, as they come. -/
def addK (ks : List (List Int)) (x : List Int) : List (List Int) := if ks.contains x = true then ks else ks ++ [x]
def kst (N : List (List Int)) (lv : List Bool) (c : List Int) : Nat → List (List Int)
  | 0 => []
  | i + 1 => if lv.getD i false = true then addK (kst N lv c i) (keyL N lv c i) else kst N lv c i
def kAll (N : List (List Int)) (lv : List Bool) (c : List Int) : List (List Int) := kst N lv c N.length
/-- Classes, told anew. -/
def refI (N : List (List Int)) (lv : List Bool) (c : List Int) (i : Nat) : Int := if lv.getD i false = true then (((kAll N lv c).idxOf (keyL N lv c i) : Nat) : Int) else -1
def refL (N : List (List Int)) (lv : List Bool) (c : List Int) : List Int := (List.range N.length).map (refI N lv c)
def cls0 (F lv : List Bool) : List Int := (List.range F.length).map fun i => if lv.getD i false = true then (if F.getD i false = true then 1 else 0) else -1
def clsR (F : List Bool) (N : List (List Int)) : Nat → List Int
  | 0 => cls0 F (liveL F N)
  | r + 1 => refL N (liveL F N) (clsR F N r)
def cntR (F : List Bool) (N : List (List Int)) (r : Nat) : Nat := (kAll N (liveL F N) (clsR F N r)).length
def clsF (F : List Bool) (N : List (List Int)) : List Int := clsR F N (F.length + 2)

section
variable {N : List (List Int)} {lv : List Bool} {c : List Int}
theorem kst_pre (i : Nat) : ∃ t, kst N lv c (i + 1) = kst N lv c i ++ t ∧ (lv.getD i false = true → keyL N lv c i ∈ kst N lv c (i + 1)) := by
  rw [kst]
  split
  · unfold addK
    split
    · rename_i h1 h2
      exact ⟨[], by simp, fun _ => by simpa using h2⟩
    · exact ⟨[keyL N lv c i], rfl, fun _ => by simp⟩
  · rename_i h
    exact ⟨[], by simp, fun q => absurd q h⟩
theorem kst_pre2 (i : Nat) : ∀ j, ∃ t, kst N lv c (i + j) = kst N lv c i ++ t
  | 0 => ⟨[], by simp⟩
  | j + 1 => by
    obtain ⟨t, h⟩ := kst_pre2 i j
    obtain ⟨u, h2, _⟩ := kst_pre (N := N) (lv := lv) (c := c) (i + j)
    exact ⟨t ++ u, by rw [← Nat.add_assoc, h2, h, List.append_assoc]⟩
theorem kst_all {i : Nat} (hi : i ≤ N.length) : ∃ t, kAll N lv c = kst N lv c i ++ t := by
  obtain ⟨t, h⟩ := kst_pre2 (N := N) (lv := lv) (c := c) i (N.length - i)
  rw [show i + (N.length - i) = N.length by omega] at h
  exact ⟨t, h⟩
theorem kst_len : ∀ i, (kst N lv c i).length ≤ i
  | 0 => Nat.le_refl _
  | i + 1 => by
    have := kst_len i
    rw [kst]
    split
    · unfold addK
      split <;> simp <;> omega
    · omega
theorem kst_in {x : List Int} : ∀ {i : Nat}, x ∈ kst N lv c i → ∃ j, j < i ∧ lv.getD j false = true ∧ x = keyL N lv c j
  | 0, h => by cases h
  | i + 1, h => by
    rw [kst] at h
    split at h
    · rename_i hl
      unfold addK at h
      split at h
      · obtain ⟨j, h1, h2⟩ := kst_in h
        exact ⟨j, by omega, h2⟩
      · rcases List.mem_append.1 h with q | q
        · obtain ⟨j, h1, h2⟩ := kst_in q
          exact ⟨j, by omega, h2⟩
        · rw [List.mem_singleton] at q
          exact ⟨i, by omega, hl, q⟩
    · obtain ⟨j, h1, h2⟩ := kst_in h
      exact ⟨j, by omega, h2⟩
theorem kAll_mem {i : Nat} (hi : i < N.length) (hl : lv.getD i false = true) : keyL N lv c i ∈ kAll N lv c := by
  obtain ⟨_, _, h⟩ := kst_pre (N := N) (lv := lv) (c := c) i
  obtain ⟨t, ht⟩ := kst_all (N := N) (lv := lv) (c := c) (i := i + 1) hi
  rw [ht]; exact List.mem_append_left _ (h hl)
theorem refL_len : (refL N lv c).length = N.length := by simp [refL]
theorem refL_getE {i : Nat} (hi : i < (refL N lv c).length) : (refL N lv c)[i] = refI N lv c i := by simp [refL]
theorem refL_get {i : Nat} (hi : i < N.length) : (refL N lv c).getD i 0 = refI N lv c i := by simp [refL, List.getD, hi]
/-- A number, as it is found on the way. -/
theorem refI_at {i : Nat} (hi : i < N.length) (hl : lv.getD i false = true) : refI N lv c i = (((kst N lv c (i + 1)).idxOf (keyL N lv c i) : Nat) : Int) := by
  obtain ⟨_, _, h⟩ := kst_pre (N := N) (lv := lv) (c := c) i
  obtain ⟨t, ht⟩ := kst_all (N := N) (lv := lv) (c := c) (i := i + 1) hi
  rw [refI, if_pos hl, ht, List.idxOf_append, if_pos (h hl)]
theorem refI_dead {i : Nat} (hl : lv.getD i false = false) : refI N lv c i = -1 := by rw [refI, if_neg (by rw [hl]; simp)]
theorem refI_bd (i : Nat) (hi : i < N.length) : -1 ≤ refI N lv c i ∧ refI N lv c i < (N.length : Int) := by
  rw [refI]
  split
  · rename_i hl
    have h1 := List.idxOf_lt_length_of_mem (kAll_mem (c := c) hi hl)
    have h2 := kst_len (N := N) (lv := lv) (c := c) N.length
    unfold kAll at h1 ⊢
    omega
  · omega
theorem refI_same {i j : Nat} (hi : i < N.length) (hj : j < N.length) (hl : lv.getD i false = true) (hm : lv.getD j false = true) : refI N lv c i = refI N lv c j ↔ keyL N lv c i = keyL N lv c j := by
  rw [refI, if_pos hl, refI, if_pos hm]
  constructor
  · intro h
    have e : (kAll N lv c).idxOf (keyL N lv c i) = (kAll N lv c).idxOf (keyL N lv c j) := by omega
    have h1 := List.idxOf_lt_length_of_mem (kAll_mem (c := c) hi hl)
    have g1 := List.getElem_idxOf h1
    have h2 := List.idxOf_lt_length_of_mem (kAll_mem (c := c) hj hm)
    have g2 := List.getElem_idxOf h2
    rw [← g1, ← g2]
    congr 1
  · intro h; rw [h]

/-- Their first numbers. -/
theorem kst_heads {i : Nat} (hi : i ≤ N.length) {x : List Int} (hx : x ∈ kst N lv (refL N lv c) i) : 0 ≤ x.headD 0 ∧ x.headD 0 < ((kst N lv c i).length : Int) := by
  obtain ⟨j, hj, hl, rfl⟩ := kst_in hx
  have e : (keyL N lv (refL N lv c) j).headD 0 = refI N lv c j := by
    rw [keyL, List.headD_cons, refL_get (by omega)]
  rw [e, refI_at (by omega) hl]
  obtain ⟨_, _, h⟩ := kst_pre (N := N) (lv := lv) (c := c) j
  have h1 := List.idxOf_lt_length_of_mem (h hl)
  obtain ⟨t, ht⟩ := kst_pre2 (N := N) (lv := lv) (c := c) (j + 1) (i - (j + 1))
  rw [show j + 1 + (i - (j + 1)) = i by omega] at ht
  have h2 : (kst N lv c i).length = (kst N lv c (j + 1)).length + t.length := by rw [ht, List.length_append]
  omega
/-- Where one is new it is new again. -/
theorem kst_new {i : Nat} (hi : i < N.length) (hl : lv.getD i false = true) (hn : (kst N lv c i).contains (keyL N lv c i) = false) : (kst N lv (refL N lv c) i).contains (keyL N lv (refL N lv c) i) = false ∧ (keyL N lv (refL N lv c) i).headD 0 = ((kst N lv c i).length : Int) := by
  have e : (keyL N lv (refL N lv c) i).headD 0 = refI N lv c i := by
    rw [keyL, List.headD_cons, refL_get hi]
  have e1 : kst N lv c (i + 1) = addK (kst N lv c i) (keyL N lv c i) := by rw [kst, if_pos hl]
  have e2 : refI N lv c i = ((kst N lv c i).length : Int) := by
    rw [refI_at hi hl, e1, addK, if_neg (by rw [hn]; simp), List.idxOf_append, if_neg (by simpa using hn)]
    simp
  refine ⟨?_, by rw [e, e2]⟩
  rw [Bool.eq_false_iff]
  intro hc
  have := (kst_heads (i := i) (Nat.le_of_lt hi) (by simpa using hc)).2
  rw [e, e2] at this
  omega
/-- From round to round there are no fewer classes. -/
theorem kst_step {i : Nat} (hi : i < N.length) : (kst N lv (refL N lv c) i).length + (kst N lv c (i + 1)).length ≤ (kst N lv (refL N lv c) (i + 1)).length + (kst N lv c i).length := by
  cases hl : lv.getD i false
  · simp only [kst, hl, Bool.false_eq_true, if_false]; omega
  · have e1 : kst N lv c (i + 1) = addK (kst N lv c i) (keyL N lv c i) := by rw [kst, if_pos hl]
    have e2 : kst N lv (refL N lv c) (i + 1) = addK (kst N lv (refL N lv c) i) (keyL N lv (refL N lv c) i) := by rw [kst, if_pos hl]
    cases hn : (kst N lv c i).contains (keyL N lv c i)
    · have h3 := (kst_new hi hl hn).1
      rw [e1, e2]
      simp only [addK, hn, h3, Bool.false_eq_true, if_false, List.length_append, List.length_cons, List.length_nil]
      omega
    · rw [e1, e2]
      simp only [addK, hn, if_true]
      split
      · omega
      · simp only [List.length_append, List.length_cons, List.length_nil]; omega
theorem kst_le : ∀ i, i ≤ N.length → (kst N lv c i).length ≤ (kst N lv (refL N lv c) i).length
  | 0, _ => Nat.le_refl _
  | i + 1, hi => by
    have h1 := kst_le i (by omega)
    have h2 := kst_step (lv := lv) (c := c) (N := N) (i := i) (by omega)
    omega
theorem kst_gap {i : Nat} (hi : i ≤ N.length) : ∀ j, i + j ≤ N.length → (kst N lv (refL N lv c) i).length + (kst N lv c (i + j)).length ≤ (kst N lv (refL N lv c) (i + j)).length + (kst N lv c i).length
  | 0, _ => by rw [Nat.add_zero]; omega
  | j + 1, h => by
    have h1 := kst_gap hi j (by omega)
    have h2 := kst_step (lv := lv) (c := c) (N := N) (i := i + j) (by omega)
    rw [← Nat.add_assoc]
    omega
/-- As many classes as there were: the same ones. -/
theorem kst_stable (h : (kAll N lv (refL N lv c)).length = (kAll N lv c).length) : refL N lv (refL N lv c) = refL N lv c := by
  have hle : ∀ i, i ≤ N.length → (kst N lv c i).length = (kst N lv (refL N lv c) i).length := fun i hi => by
    have h1 := kst_le (lv := lv) (c := c) (N := N) i hi
    have h2 := kst_gap (lv := lv) (c := c) (N := N) (i := i) hi (N.length - i) (by omega)
    rw [show i + (N.length - i) = N.length by omega] at h2
    unfold kAll at h
    omega
  have hh : ∀ i, i ≤ N.length → (kst N lv (refL N lv c) i).map (fun x => x.headD 0) = (List.range (kst N lv c i).length).map fun (j : Nat) => (j : Int) := fun i => by
    induction i with
    | zero => intro _; rfl
    | succ i ih =>
      intro hi
      have ih := ih (by omega)
      cases hl : lv.getD i false
      · simp only [kst, hl, Bool.false_eq_true, if_false]; exact ih
      · have e1 : kst N lv c (i + 1) = addK (kst N lv c i) (keyL N lv c i) := by rw [kst, if_pos hl]
        have e2 : kst N lv (refL N lv c) (i + 1) = addK (kst N lv (refL N lv c) i) (keyL N lv (refL N lv c) i) := by rw [kst, if_pos hl]
        have l0 := hle i (by omega)
        have l1 := hle (i + 1) hi
        rw [e1, e2] at l1
        rw [e1, e2]
        cases hn : (kst N lv c i).contains (keyL N lv c i)
        · obtain ⟨h3, h4⟩ := kst_new (by omega) hl hn
          simp only [addK, hn, h3, Bool.false_eq_true, if_false, List.map_append, List.length_append, List.length_cons, List.length_nil, ih, List.map_cons, List.map_nil, h4, List.range_succ]
        · cases h3 : (kst N lv (refL N lv c) i).contains (keyL N lv (refL N lv c) i)
          · simp only [addK, hn, h3, Bool.false_eq_true, if_false, if_true, List.length_append, List.length_cons, List.length_nil] at l1
            omega
          · simp only [addK, hn, h3, if_true]; exact ih
  have hA := hh N.length (Nat.le_refl _)
  apply List.ext_getElem
  · rw [refL_len, refL_len]
  · intro i h1 h2
    have hi : i < N.length := by rw [refL_len] at h1; exact h1
    rw [refL_getE, refL_getE]
    cases hl : lv.getD i false
    · rw [refI_dead hl, refI_dead hl]
    · have hm := kAll_mem (c := refL N lv c) hi hl
      have h3 := List.idxOf_lt_length_of_mem hm
      have g3 := List.getElem_idxOf h3
      have e : (keyL N lv (refL N lv c) i).headD 0 = refI N lv c i := by
        rw [keyL, List.headD_cons, refL_get hi]
      have q : ((kAll N lv (refL N lv c)).map (fun x => x.headD 0))[(kAll N lv (refL N lv c)).idxOf (keyL N lv (refL N lv c) i)]'(by simpa using h3) = refI N lv c i := by
        rw [List.getElem_map, g3, e]
      have q2 : ((kAll N lv (refL N lv c)).map (fun x => x.headD 0))[(kAll N lv (refL N lv c)).idxOf (keyL N lv (refL N lv c) i)]'(by simpa using h3) = (((kAll N lv (refL N lv c)).idxOf (keyL N lv (refL N lv c) i) : Nat) : Int) := by
        have hA' : (kAll N lv (refL N lv c)).map (fun x => x.headD 0) = (List.range (kst N lv c N.length).length).map fun (j : Nat) => (j : Int) := hA
        simp only [hA', List.getElem_map, List.getElem_range]
      have : refI N lv (refL N lv c) i = (((kAll N lv (refL N lv c)).idxOf (keyL N lv (refL N lv c) i) : Nat) : Int) := by rw [refI, if_pos hl]
      rw [this, ← q2, q]
end

section
variable {F : List Bool} {N : List (List Int)}
theorem cntR_le (r : Nat) : cntR F N r ≤ cntR F N (r + 1) := kst_le N.length (Nat.le_refl _)
theorem cntR_top (r : Nat) : cntR F N r ≤ N.length := kst_len _
theorem clsR_stop {r : Nat} (h : cntR F N (r + 1) = cntR F N r) : ∀ j, clsR F N (r + 1 + j) = clsR F N (r + 1)
  | 0 => rfl
  | j + 1 => by
    rw [← Nat.add_assoc, clsR, clsR_stop h j]
    exact kst_stable h
theorem cntR_rise (r : Nat) : (∃ q, q < r ∧ cntR F N (q + 1) = cntR F N q) ∨ r ≤ cntR F N r := by
  induction r with
  | zero => exact .inr (Nat.zero_le _)
  | succ r ih =>
    rcases ih with ⟨q, h1, h2⟩ | h
    · exact .inl ⟨q, by omega, h2⟩
    · by_cases he : cntR F N (r + 1) = cntR F N r
      · exact .inl ⟨r, by omega, he⟩
      · right
        have := cntR_le (F := F) (N := N) r
        omega
theorem clsF_of (hl : N.length = F.length) {r : Nat} (h : cntR F N (r + 1) = cntR F N r) : clsR F N (r + 1) = clsF F N := by
  have key : ∃ q, q ≤ F.length ∧ cntR F N (q + 1) = cntR F N q := by
    rcases cntR_rise (F := F) (N := N) (F.length + 1) with ⟨q, h1, h2⟩ | g
    · exact ⟨q, by omega, h2⟩
    · have := cntR_top (F := F) (N := N) (F.length + 1); omega
  obtain ⟨q, h1, h2⟩ := key
  have e1 := clsR_stop h2 (F.length + 1 - q)
  rw [show q + 1 + (F.length + 1 - q) = F.length + 2 by omega] at e1
  unfold clsF
  rw [e1]
  rcases Nat.le_total r q with g | g
  · have := clsR_stop h (q - r)
    rw [show r + 1 + (q - r) = q + 1 by omega] at this
    exact this.symm
  · have := clsR_stop h2 (r - q)
    rw [show q + 1 + (r - q) = r + 1 by omega] at this
    exact this
theorem clsF_fix (hl : N.length = F.length) : refL N (liveL F N) (clsF F N) = clsF F N := by
  have key : ∃ q, q ≤ F.length ∧ cntR F N (q + 1) = cntR F N q := by
    rcases cntR_rise (F := F) (N := N) (F.length + 1) with ⟨q, h1, h2⟩ | g
    · exact ⟨q, by omega, h2⟩
    · have := cntR_top (F := F) (N := N) (F.length + 1); omega
  obtain ⟨q, h1, h2⟩ := key
  rw [← clsF_of hl h2]
  exact kst_stable h2
theorem clsR_len (hl : N.length = F.length) : ∀ r, (clsR F N r).length = F.length
  | 0 => by simp [clsR, cls0]
  | r + 1 => by rw [clsR, refL_len, hl]
theorem clsR_bd (hl : N.length = F.length) (hk : 1 ≤ F.length) : ∀ r, ∀ x ∈ clsR F N r, -1 ≤ x ∧ x < (F.length : Int) + 1
  | 0, x, hx => by
    simp only [clsR, cls0, List.mem_map, List.mem_range] at hx
    obtain ⟨i, hi, rfl⟩ := hx
    split
    · split <;> omega
    · omega
  | r + 1, x, hx => by
    simp only [clsR, refL, List.mem_map, List.mem_range] at hx
    obtain ⟨i, hi, rfl⟩ := hx
    have := refI_bd (lv := liveL F N) (c := clsR F N r) i hi
    omega
end

end Go.Proofs.Ytcfnbofapjgepaa
