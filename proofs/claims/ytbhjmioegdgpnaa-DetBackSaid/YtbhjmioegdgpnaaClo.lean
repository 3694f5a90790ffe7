/-
  What states lead to without an interaction, and by one: plain functions and facts.
-/
import Derived.Test.YtbhjmioegdgpnaaNfa
import Derived.Test.YtbhjmioegdgpnaaLive
namespace Go.Proofs.Ytbhjmioegdgpnaa
open Go.Ab
set_option linter.unusedSimpArgs false
set_option linter.unusedVariables false

theorem getD_set_self {l : List Bool} {i : Nat} (h : i < l.length) {x d : Bool} : (l.set i x).getD i d = x := by simp [List.getD, h]
theorem getD_set_nq {l : List Bool} {i j : Nat} (h : i ≠ j) {x d : Bool} : (l.set i x).getD j d = l.getD j d := by simp only [List.getD, List.getElem?_set_ne h]
theorem getD_lt_true {l : List Bool} {i : Nat} (h : l.getD i false = true) : i < l.length := by
  rcases Nat.lt_or_ge i l.length with q | q
  · exact q
  · simp [List.getD, List.getElem?_eq_none q] at h

/-! ### turns of a growing set -/
def itF (f : List Bool → List Bool) (o : List Bool) : Nat → List Bool
  | 0 => o
  | r + 1 => f (itF f o r)
section
variable {f : List Bool → List Bool} (hf : ∀ o, bleB o (f o))
include hf
theorem itF_ble (o : List Bool) : ∀ r, bleB o (itF f o r)
  | 0 => bleB_refl o
  | r + 1 => bleB_trans (itF_ble o r) (hf _)
theorem itF_len (o : List Bool) (r : Nat) : (itF f o r).length = o.length := (itF_ble hf o r).1.symm
theorem itF_grows (o : List Bool) : ∀ r, (∃ q, q ≤ r ∧ f (itF f o q) = itF f o q) ∨ r + 1 ≤ (itF f o (r + 1)).count true
  | 0 => by
    by_cases h : f (itF f o 0) = itF f o 0
    · exact .inl ⟨0, Nat.le_refl _, h⟩
    · right
      have hb := ble_count (hf (itF f o 0))
      have : (itF f o 0).count true ≠ (f (itF f o 0)).count true := fun e => h (hb.2 e).symm
      have e : itF f o (0 + 1) = f (itF f o 0) := rfl
      rw [e]; omega
  | r + 1 => by
    rcases itF_grows o r with ⟨q, h1, h2⟩ | h
    · exact .inl ⟨q, by omega, h2⟩
    · by_cases hs : f (itF f o (r + 1)) = itF f o (r + 1)
      · exact .inl ⟨r + 1, Nat.le_refl _, hs⟩
      · right
        have hb := ble_count (hf (itF f o (r + 1)))
        have : (itF f o (r + 1)).count true ≠ (f (itF f o (r + 1))).count true := fun e => hs (hb.2 e).symm
        have e : itF f o (r + 1 + 1) = f (itF f o (r + 1)) := rfl
        rw [e]; omega
omit hf in
theorem itF_stop {o : List Bool} {r : Nat} (h : f (itF f o r) = itF f o r) : ∀ k, itF f o (r + k) = itF f o r
  | 0 => rfl
  | k + 1 => by rw [← Nat.add_assoc, itF, itF_stop h k, h]
theorem itF_stable (o : List Bool) {n : Nat} (hn : o.length ≤ n) : f (itF f o n) = itF f o n := by
  have key : ∃ q, q ≤ n ∧ f (itF f o q) = itF f o q := by
    rcases itF_grows hf o n with h | h
    · exact h
    · exfalso
      have h1 := List.count_le_length (a := true) (l := itF f o (n + 1))
      rw [itF_len hf] at h1; omega
  obtain ⟨q, h1, h2⟩ := key
  have := itF_stop h2 (n - q)
  rw [show q + (n - q) = n by omega] at this
  rw [this]; exact h2
end

/-! ### without an interaction -/
abbrev Mv := List (List (Int × Int))
def rowB (r : List (Int × Int)) (b : List Bool) : Nat → List Bool
  | 0 => b
  | j + 1 => if (r.getD j (0, 0)).1 = -1 then (rowB r b j).set (r.getD j (0, 0)).2.toNat true else rowB r b j
def stB (M : Mv) (b : List Bool) (s : Nat) : List Bool := if b.getD s false = true then rowB (M.getD s []) b (M.getD s []).length else b
def swS (M : Mv) (b : List Bool) : Nat → List Bool
  | 0 => b
  | s + 1 => stB M (swS M b s) s
def swB (M : Mv) (b : List Bool) : List Bool := swS M b M.length
def inB (k : Nat) (l : List Int) : Nat → List Bool
  | 0 => List.replicate k false
  | i + 1 => if 0 ≤ l.getD i 0 ∧ l.getD i 0 < (k : Int) then (inB k l i).set (l.getD i 0).toNat true else inB k l i
def cloB (M : Mv) (l : List Int) : List Bool := itF (swB M) (inB M.length l l.length) M.length
def onL (n : Nat) (p : Nat → Bool) : List Int := ((List.range n).filter p).map fun (x : Nat) => (x : Int)
def cloL (M : Mv) (l : List Int) : List Int := onL M.length fun x => (cloB M l).getD x false

theorem onL_mem {n : Nat} {p : Nat → Bool} {x : Int} : x ∈ onL n p ↔ ∃ y : Nat, x = (y : Int) ∧ y < n ∧ p y = true := by
  simp only [onL, List.mem_map, List.mem_filter, List.mem_range]
  constructor
  · rintro ⟨y, ⟨h1, h2⟩, rfl⟩; exact ⟨y, rfl, h1, h2⟩
  · rintro ⟨y, rfl, h1, h2⟩; exact ⟨y, ⟨h1, h2⟩, rfl⟩
theorem onL_sorted (n : Nat) (p : Nat → Bool) : (onL n p).Pairwise (· < ·) := by
  unfold onL
  rw [List.pairwise_map]
  refine List.Pairwise.imp (fun {a b} h => ?_) ((List.pairwise_lt_range (n := n)).filter p)
  exact Int.ofNat_lt.2 h
theorem onL_len (n : Nat) (p : Nat → Bool) : (onL n p).length ≤ n := by
  unfold onL
  rw [List.length_map]
  have := List.length_filter_le p (List.range n)
  simpa using this
theorem onL_succ (n : Nat) (p : Nat → Bool) : onL (n + 1) p = onL n p ++ (if p n = true then [(n : Int)] else []) := by
  unfold onL
  rw [List.range_succ, List.filter_append, List.map_append]
  congr 1
  by_cases h : p n = true <;> simp [h]
theorem sorted_ext : ∀ {a b : List Int}, a.Pairwise (· < ·) → b.Pairwise (· < ·) → (∀ x, x ∈ a ↔ x ∈ b) → a = b
  | [], [], _, _, _ => rfl
  | [], y :: b, _, _, h => by have := (h y).2 (by simp); cases this
  | x :: a, [], _, _, h => by have := (h x).1 (by simp); cases this
  | x :: a, y :: b, h1, h2, h => by
    rw [List.pairwise_cons] at h1 h2
    have e : x = y := by
      rcases List.mem_cons.1 ((h x).1 (by simp)) with q | q
      · exact q
      · rcases List.mem_cons.1 ((h y).2 (by simp)) with r | r
        · exact r.symm
        · have q1 := h2.1 x q
          have q2 := h1.1 y r
          omega
    subst e
    congr 1
    refine sorted_ext h1.2 h2.2 fun z => ⟨fun hz => ?_, fun hz => ?_⟩
    · rcases List.mem_cons.1 ((h z).1 (by simp [hz])) with q | q
      · have := h1.1 z hz; omega
      · exact q
    · rcases List.mem_cons.1 ((h z).2 (by simp [hz])) with q | q
      · have := h2.1 z hz; omega
      · exact q

theorem rowB_ble (r : List (Int × Int)) (b : List Bool) : ∀ j, bleB b (rowB r b j)
  | 0 => bleB_refl b
  | j + 1 => by
    rw [rowB]
    split
    · exact bleB_trans (rowB_ble r b j) (set_ble _ _)
    · exact rowB_ble r b j
theorem stB_ble (M : Mv) (b : List Bool) (s : Nat) : bleB b (stB M b s) := by
  unfold stB
  split
  · exact rowB_ble _ _ _
  · exact bleB_refl b
theorem swS_ble (M : Mv) (b : List Bool) : ∀ s, bleB b (swS M b s)
  | 0 => bleB_refl b
  | s + 1 => bleB_trans (swS_ble M b s) (stB_ble M _ s)
theorem swB_ble (M : Mv) (b : List Bool) : bleB b (swB M b) := swS_ble M b _
theorem inB_len (k : Nat) (l : List Int) : ∀ i, (inB k l i).length = k
  | 0 => by simp [inB]
  | i + 1 => by
    rw [inB]
    split
    · rw [List.length_set, inB_len k l i]
    · exact inB_len k l i
theorem rowB_len (r : List (Int × Int)) (b : List Bool) (j : Nat) : (rowB r b j).length = b.length := (rowB_ble r b j).1.symm
theorem cloB_len (M : Mv) (l : List Int) : (cloB M l).length = M.length := by
  unfold cloB
  rw [itF_len (swB_ble M), inB_len]

/-- What is come to. -/
inductive ER (M : Mv) (l : List Int) : Nat → Prop
  | base {x : Nat} (h : (x : Int) ∈ l) (hk : x < M.length) : ER M l x
  | step {s t : Nat} (hs : ER M l s) (hm : ((-1 : Int), (t : Int)) ∈ M.getD s []) (ht : t < M.length) : ER M l t
theorem ER.lt {M : Mv} {l : List Int} {x : Nat} (h : ER M l x) : x < M.length := by
  cases h with
  | base _ hk => exact hk
  | step _ _ ht => exact ht
theorem inB_er {M : Mv} {l : List Int} : ∀ {i : Nat}, i ≤ l.length → ∀ {x : Nat}, (inB M.length l i).getD x false = true → ER M l x
  | 0, _, x, h => by
    have := getD_lt_true h
    rw [inB_len] at this
    simp [inB, List.getD, this] at h
  | i + 1, hi, x, h => by
    rw [inB] at h
    split at h
    · rename_i hc
      by_cases e : (l.getD i 0).toNat = x
      · subst e
        refine .base ?_ (by omega)
        rw [show (((l.getD i 0).toNat : Nat) : Int) = l.getD i 0 by omega]
        simp [List.getD, List.getElem?_eq_getElem (show i < l.length by omega)]
      · rw [getD_set_nq e] at h
        exact inB_er (by omega) h
    · exact inB_er (by omega) h
theorem inB_keep {k : Nat} {l : List Int} {x : Nat} : ∀ {i j : Nat}, (inB k l i).getD x false = true → (inB k l (i + j)).getD x false = true
  | i, 0, h => h
  | i, j + 1, h => by
    rw [← Nat.add_assoc, inB]
    have := inB_keep (j := j) h
    split
    · exact (set_ble _ _).2 x this
    · exact this
theorem inB_base {k : Nat} {l : List Int} {x : Nat} (h : (x : Int) ∈ l) (hx : x < k) : (inB k l l.length).getD x false = true := by
  obtain ⟨i, hi, e⟩ := List.getElem_of_mem h
  have e2 : l.getD i 0 = (x : Int) := by simp [List.getD, List.getElem?_eq_getElem hi, e]
  have : (inB k l (i + 1)).getD x false = true := by
    rw [inB, if_pos (by omega), e2, Int.toNat_natCast]
    exact getD_set_self (by rw [inB_len]; exact hx)
  have := inB_keep (j := l.length - (i + 1)) this
  rwa [show i + 1 + (l.length - (i + 1)) = l.length by omega] at this
section
variable {L k : Nat} {M : Mv} {l : List Int}
theorem rowB_er (h : MOk L k M) {s : Nat} {b : List Bool} (hs : ER M l s) (hb : ∀ {x : Nat}, b.getD x false = true → ER M l x) : ∀ {j : Nat}, j ≤ (M.getD s []).length → ∀ {x : Nat}, (rowB (M.getD s []) b j).getD x false = true → ER M l x
  | 0, _, x, hx => hb hx
  | j + 1, hj, x, hx => by
    rw [rowB] at hx
    split at hx
    · rename_i hc
      have hm : (M.getD s []).getD j (0, 0) ∈ M.getD s [] := by
        generalize M.getD s [] = r at *
        simp [List.getD, List.getElem?_eq_getElem (show j < r.length by omega)]
      have hg := h.get s _ hm
      generalize (M.getD s []).getD j (0, 0) = y at *
      by_cases e : y.2.toNat = x
      · subst e
        refine .step hs ?_ (by have := h.len; omega)
        rw [show ((y.2.toNat : Nat) : Int) = y.2 by omega, ← hc]
        exact hm
      · rw [getD_set_nq e] at hx
        exact rowB_er h hs hb (by omega) hx
    · exact rowB_er h hs hb (by omega) hx
theorem swS_er (h : MOk L k M) {b : List Bool} (hb : ∀ {x : Nat}, b.getD x false = true → ER M l x) : ∀ {s x : Nat}, (swS M b s).getD x false = true → ER M l x
  | 0, x, hx => hb hx
  | s + 1, x, hx => by
    rw [swS, stB] at hx
    split at hx
    · rename_i hc
      exact rowB_er h (swS_er h hb hc) (fun hx => swS_er h hb hx) (Nat.le_refl _) hx
    · exact swS_er h hb hx
theorem itF_er (h : MOk L k M) {b : List Bool} (hb : ∀ {x : Nat}, b.getD x false = true → ER M l x) : ∀ {r x : Nat}, (itF (swB M) b r).getD x false = true → ER M l x
  | 0, x, hx => hb hx
  | r + 1, x, hx => swS_er h (fun hx => itF_er h hb hx) hx
theorem rowB_has {r : List (Int × Int)} {b : List Bool} {t : Nat} (hm : ((-1 : Int), (t : Int)) ∈ r) (ht : t < b.length) : (rowB r b r.length).getD t false = true := by
  obtain ⟨i, hi, e⟩ := List.getElem_of_mem hm
  have e2 : r.getD i (0, 0) = (-1, (t : Int)) := by simp [List.getD, List.getElem?_eq_getElem hi, e]
  have h1 : (rowB r b (i + 1)).getD t false = true := by
    rw [rowB, e2, if_pos rfl]
    exact getD_set_self (by rw [rowB_len]; exact ht)
  have h2 : ∀ j, (rowB r b (i + 1 + j)).getD t false = true := fun j => by
    induction j with
    | zero => exact h1
    | succ j ih =>
      rw [← Nat.add_assoc, rowB]
      split
      · exact (set_ble _ _).2 t ih
      · exact ih
  have := h2 (r.length - (i + 1))
  rwa [show i + 1 + (r.length - (i + 1)) = r.length by omega] at this
theorem swS_eq {b : List Bool} (h : swB M b = b) : ∀ i, i ≤ M.length → swS M b i = b := by
  intro i hi
  have h1 : bleB b (swS M b i) := swS_ble M b i
  have h2 : ∀ k, bleB (swS M b i) (swS M b (i + k)) := fun k => by
    induction k with
    | zero => exact bleB_refl _
    | succ k ih => exact bleB_trans ih (stB_ble M _ _)
  have h3 := h2 (M.length - i)
  rw [show i + (M.length - i) = M.length by omega, show swS M b M.length = b from h] at h3
  have c1 := ble_count h1
  have c2 := ble_count h3
  exact (c1.2 (by omega)).symm
theorem cloB_iff (h : MOk L k M) {x : Nat} : (cloB M l).getD x false = true ↔ ER M l x := by
  constructor
  · exact itF_er h fun hx => inB_er (Nat.le_refl _) hx
  · intro hx
    have hst : swB M (cloB M l) = cloB M l := itF_stable (swB_ble M) _ (by rw [inB_len]; exact Nat.le_refl _)
    induction hx with
    | base hm hk => exact (itF_ble (swB_ble M) _ _).2 _ (inB_base hm hk)
    | @step s t hs hm ht ih =>
      have hsl : s < M.length := by have := getD_lt_true ih; rwa [cloB_len] at this
      have h1 := swS_eq hst s (by omega)
      have h2 := swS_eq hst (s + 1) (by omega)
      rw [swS, h1, stB, if_pos ih] at h2
      rw [← h2]
      exact rowB_has hm (by rw [cloB_len]; exact ht)
theorem cloL_mem (h : MOk L k M) {x : Int} : x ∈ cloL M l ↔ ∃ y : Nat, x = (y : Int) ∧ ER M l y := by
  unfold cloL
  rw [onL_mem]
  constructor
  · rintro ⟨y, rfl, h1, h2⟩; exact ⟨y, rfl, (cloB_iff h).1 h2⟩
  · rintro ⟨y, rfl, h2⟩; exact ⟨y, rfl, h2.lt, (cloB_iff h).2 h2⟩
end

/-! ### by an interaction -/
def stepP (M : Mv) (l : List Int) (a : Int) (s : Nat) : Bool := (List.range M.length).any fun i => l.contains (i : Int) && (M.getD i []).any fun m => m.1 == a && m.2 == (s : Int)
def stepL (M : Mv) (l : List Int) (a : Int) : List Int := onL M.length (stepP M l a)
theorem stepL_mem {L k : Nat} {M : Mv} (h : MOk L k M) {l : List Int} {a x : Int} : x ∈ stepL M l a ↔ ∃ i : Nat, (i : Int) ∈ l ∧ (a, x) ∈ M.getD i [] := by
  unfold stepL
  rw [onL_mem]
  constructor
  · rintro ⟨y, rfl, h1, h2⟩
    simp only [stepP, List.any_eq_true, List.mem_range, Bool.and_eq_true, List.contains_iff_mem, beq_iff_eq] at h2
    obtain ⟨i, hi, hl, ⟨m1, m2⟩, hm, e1, e2⟩ := h2
    simp only at e1 e2
    subst e1 e2
    exact ⟨i, hl, hm⟩
  · rintro ⟨i, hl, hm⟩
    have hg := h.get i _ hm
    have hi : i < M.length := by
      rcases Nat.lt_or_ge i M.length with q | q
      · exact q
      · simp [List.getD, List.getElem?_eq_none q] at hm
    simp only at hg
    refine ⟨x.toNat, by omega, by have := h.len; omega, ?_⟩
    simp only [stepP, List.any_eq_true, List.mem_range, Bool.and_eq_true, List.contains_iff_mem, beq_iff_eq]
    exact ⟨i, hi, hl, _, hm, rfl, by simp only; omega⟩
/-- Which interactions lead on. -/
def outL (L : Nat) (M : Mv) (l : List Int) : List Int := onL L fun a => !(stepL M l (a : Int)).isEmpty
theorem outL_mem {L k : Nat} {M : Mv} (h : MOk L k M) {l : List Int} {a : Int} : a ∈ outL L M l ↔ 0 ≤ a ∧ ∃ (i : Nat) (x : Int), (i : Int) ∈ l ∧ (a, x) ∈ M.getD i [] := by
  unfold outL
  rw [onL_mem]
  constructor
  · rintro ⟨y, rfl, h1, h2⟩
    refine ⟨by omega, ?_⟩
    obtain ⟨x, hx⟩ := List.exists_mem_of_ne_nil (stepL M l (y : Int)) (by intro e; rw [e] at h2; cases h2)
    obtain ⟨i, h3, h4⟩ := (stepL_mem h).1 hx
    exact ⟨i, x, h3, h4⟩
  · rintro ⟨h0, i, x, h1, h2⟩
    have hg := h.get i _ h2
    simp only at hg
    refine ⟨a.toNat, by omega, by omega, ?_⟩
    have hx := (stepL_mem h (l := l)).2 ⟨i, h1, h2⟩
    rw [show ((a.toNat : Nat) : Int) = a by omega]
    cases hs : stepL M l a with
    | nil => rw [hs] at hx; cases hx
    | cons y t => rfl
/-- May it end? -/
def finL (F : List Bool) (l : List Int) : Bool := l.any fun s => decide (0 ≤ s) && decide (s < (F.length : Int)) && F.getD s.toNat false
end Go.Proofs.Ytbhjmioegdgpnaa
