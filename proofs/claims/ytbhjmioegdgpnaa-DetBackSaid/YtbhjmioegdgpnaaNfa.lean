/-
  States of which interactions lead to some, by any moves: plain functions; families of rows of unlike lengths.
-/
import Derived.Test.YtbhjmioegdgpnaaDfa
import Derived.Test.YtbhjmioegdgpnaaFam
namespace Go.Proofs.Ytbhjmioegdgpnaa
open Go.Ab
set_option linter.unusedSimpArgs false
set_option linter.unusedVariables false

/-- Moves as rows. -/
def mvs (l : List (Int × Int)) : List (List D) := l.map fun x => [i64 x.1, i64 x.2]
theorem mvs_len (l : List (Int × Int)) : (mvs l).length = l.length := by simp [mvs]
theorem mvs_get {l : List (Int × Int)} {i : Nat} (h : i < l.length) : (mvs l).getD i [] = [i64 (l.getD i (0, 0)).1, i64 (l.getD i (0, 0)).2] := by
  simp [mvs, List.getD, List.getElem?_eq_getElem h]
theorem mvs_take (l : List (Int × Int)) (k : Nat) : (mvs l).take k = mvs (l.take k) := by simp [mvs]
theorem mvs_snoc (l : List (Int × Int)) (a b : Int) : mvs l ++ [[i64 a, i64 b]] = mvs (l ++ [(a, b)]) := by simp [mvs]
def mmv (M : List (List (Int × Int))) : List (List D) := M.map fun r => [.sl false (mvs r)]
theorem mmv_len (M : List (List (Int × Int))) : (mmv M).length = M.length := by simp [mmv]
theorem mmv_get {M : List (List (Int × Int))} {i : Nat} (h : i < M.length) : (mmv M).getD i [] = [.sl false (mvs (M.getD i []))] := by
  simp [mmv, List.getD, List.getElem?_eq_getElem h]
theorem mmv_take (M : List (List (Int × Int))) (k : Nat) : (mmv M).take k = mmv (M.take k) := by simp [mmv]
def nfaD (L s : Nat) (F : List Bool) (M : List (List (Int × Int))) : D := .agg [i64 L, i64 s, .sl false (bos F), .sl false (mmv M)]

/-- Moves that may be. -/
structure MOk (L k : Nat) (M : List (List (Int × Int))) : Prop where
  len : M.length = k
  row : ∀ r ∈ M, ∀ x ∈ r, -1 ≤ x.1 ∧ x.1 < (L : Int) ∧ 0 ≤ x.2 ∧ x.2 < (k : Int)
theorem MOk.get {L k : Nat} {M : List (List (Int × Int))} (h : MOk L k M) (s : Nat) : ∀ x ∈ M.getD s [], -1 ≤ x.1 ∧ x.1 < (L : Int) ∧ 0 ≤ x.2 ∧ x.2 < (k : Int) := by
  intro x hx
  rcases Nat.lt_or_ge s M.length with q | q
  · have e : M.getD s [] = M[s] := by simp [List.getD, List.getElem?_eq_getElem q]
    rw [e] at hx
    exact h.row _ (List.getElem_mem _) x hx
  · simp [List.getD, List.getElem?_eq_none q] at hx
/-- Rows' own slices, of unlike lengths. -/
def ownRowsV (n : Nat) (g : Nat → Nat) : List (List D) := (List.range n).map fun r => [D.own (r + 90000) 0 (g r)]
theorem ownRowsV_len (n : Nat) (g : Nat → Nat) : (ownRowsV n g).length = n := by simp [ownRowsV]
theorem ownRowsV_row (n : Nat) (g : Nat → Nat) : (∀ row ∈ ownRowsV n g, row.length = 1) = True := by simp [ownRowsV]
theorem ownRowsV_kill {n k : Nat} {g : Nat → Nat} (h : decide (k < 90000) = true) : (ownRowsV n g).map (D.killL k) = ownRowsV n g := by
  have := of_decide_eq_true h
  simp only [ownRowsV, List.map_map]
  apply List.map_congr_left
  intro r hr
  simp only [Function.comp, D.killL, D.kill]
  rw [if_neg (by omega)]
theorem ownRowsV_killB {n k : Nat} {g : Nat → Nat} (hn : n ≤ 10000) (h : decide (10000 + 90000 ≤ k) = true) : (ownRowsV n g).map (D.killL k) = ownRowsV n g := by
  have := of_decide_eq_true h
  simp only [ownRowsV, List.map_map]
  apply List.map_congr_left
  intro r hr
  have := List.mem_range.1 hr
  simp only [Function.comp, D.killL, D.kill]
  rw [if_neg (by omega)]
theorem purLL_ownV {h : Nat → Option AObj} {len : Nat → Nat} {g : Nat → AObj} : ∀ (l : List Nat), (∀ r ∈ l, h (r + 90000) = some (g r) ∧ (g r).flat = true ∧ (g r).rows.length = len r) →
    ∃ p, purLL (pur h 4) (l.map fun r => [D.own (r + 90000) 0 (len r)]) = some (l.map (· + 90000), p, l.map fun r => [D.sl false (g r).rows]) ∧ p
  | [], _ => ⟨True, rfl, trivial⟩
  | r :: l, hg => by
    obtain ⟨p, e, hp⟩ := purLL_ownV (h := h) (len := len) (g := g) l fun r hr => hg r (by simp [hr])
    obtain ⟨h1, h2, h3⟩ := hg r (by simp)
    refine ⟨((0 + len r ≤ (g r).rows.length) ∧ True) ∧ p, ?_, ⟨⟨by omega, trivial⟩, hp⟩⟩
    rw [List.map_cons, purLL, e]
    simp only [purL, pur, purB, h1, h2, if_true, List.nil_append, List.cons_append, List.map_cons, List.append_nil, List.drop_zero, List.take_of_length_le (Nat.le_of_eq h3)]

section
variable {P : Program} {E : Ent}
end

end Go.Proofs.Ytbhjmioegdgpnaa
