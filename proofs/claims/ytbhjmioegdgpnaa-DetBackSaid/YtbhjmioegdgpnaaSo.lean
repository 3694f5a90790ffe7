/-
  The library's sort and compaction of integers, as contracts; what comes of both.
-/
import Derived.Test.YtbhjmioegdgpnaaAbS
import Derived.Test.YtbhjmioegdgpnaaClo
import Derived.Test.YtbhjmioegdgpnaaProg
import Derived.Ground.NamesProg
import Derived.Ground.Names2Prog
import Derived.Shelf.Lay
import Derived.Shelf.Sort.Plain
import Derived.Shelf.Slices.In.SortNone
import Derived.Shelf.Slices.CompactI
namespace Go.Proofs
open Go.Shelf
shelf_lay Lays.n189 Nm 189 at Try as Try.laysSort
shelf_lay Lays2.n20 Nm2 20 at Try as Try.laysCompact
end Go.Proofs
namespace Go.Proofs.Ytbhjmioegdgpnaa
open Go.Ab
set_option linter.unusedSimpArgs false
set_option linter.unusedVariables false

theorem c_SortI (l : List Int) (hl : l.length ≤ 1000000) : ContractM Try.prog 28 [{ sz := 1, rows := ints l }] [.own 0 0 l.length] (.tup []) [some { sz := 1, rows := ints (sortI l) }] :=
  contractM_sort (fun blk off cap zs w hH hb hz => Any.slices_Sort_int Try.laysSort blk off cap zs w hH hb hz) (fun p cap w => Any.slices_Sort_int_none Try.laysSort p cap w) l (by omega)
theorem c_CompactI (l : List Int) (hl : l.length ≤ 1000000) : ContractM Try.prog 29 [{ sz := 1, rows := ints l }] [.own 0 0 l.length] (.own 0 0 (cptI l).length) [some { sz := 1, rows := ints (cpzI l) }] :=
  contractM_compact (fun blk off cap zs w hH hb hz => Any.slices_Compact_int Try.laysCompact blk off cap zs w hH hb hz) (fun p cap w => Any.slices_Compact_int_empty Try.laysCompact p cap w) l (by omega)

theorem cpzI_take (l : List Int) : (cpzI l).take (cptI l).length = cptI l := by simp [cpzI]
theorem sortI_mem {l : List Int} {x : Int} : x ∈ sortI l ↔ x ∈ l := (sortI_perm l).mem_iff
theorem sortI_le (l : List Int) : (sortI l).Pairwise (· ≤ ·) := by
  have := List.pairwise_mergeSort (le := fun x y : Int => decide (x ≤ y)) (fun a b c h1 h2 => by simp only [decide_eq_true_eq] at *; omega) (fun a b => by simp only [Bool.or_eq_true, decide_eq_true_eq]; omega) l
  exact this.imp fun h => by simpa using h
theorem sortI_lt {l : List Int} (h : l.Nodup) : (sortI l).Pairwise (· < ·) := by
  have h1 := sortI_le l
  have h2 : (sortI l).Nodup := (sortI_perm l).nodup_iff.2 h
  exact h1.imp₂ (fun a b p q => by have : a ≠ b := q; omega) h2
theorem arr_get (l : List Int) (i : Nat) : l.toArray[i]! = l.getD i 0 := by
  rcases Nat.lt_or_ge i l.length with h | h
  · simp [List.getD, h]
  · simp [List.getD, List.getElem?_eq_none h]
theorem keeps_iff (l : List Int) (i : Nat) : Lib.keeps l.toArray i = true ↔ i = 0 ∨ l.getD i 0 ≠ l.getD (i - 1) 0 := by
  unfold Lib.keeps
  rw [arr_get, arr_get, decide_eq_true_eq]
theorem cptI_eq (l : List Int) : cptI l = ((List.range l.length).filter (Lib.keeps l.toArray)).map fun i => l.getD i 0 := by
  unfold cptI Lib.compact Lib.compactUpTo
  apply List.map_congr_left
  intro i _
  exact arr_get l i
/-- A list in order, each once. -/
theorem cptI_lt {l : List Int} (h : l.Pairwise (· ≤ ·)) : (cptI l).Pairwise (· < ·) := by
  have hm : ∀ i j, i ≤ j → j < l.length → l.getD i 0 ≤ l.getD j 0 := fun i j hij hj => by
    rcases Nat.lt_or_ge i j with q | q
    · have := List.pairwise_iff_getElem.1 h i j (by omega) hj q
      simpa [List.getD, hj, show i < l.length by omega] using this
    · rw [show i = j by omega]; exact Int.le_refl _
  rw [cptI_eq, List.pairwise_map]
  have h1 : ((List.range l.length).filter (Lib.keeps l.toArray)).Pairwise (· < ·) := (List.pairwise_lt_range (n := l.length)).filter _
  refine h1.imp_of_mem fun {i j} hi hj hij => ?_
  have hjl := List.mem_range.1 (List.mem_filter.1 hj).1
  have hk := (keeps_iff l j).1 (List.mem_filter.1 hj).2
  have a1 := hm i (j - 1) (by omega) (by omega)
  have a2 := hm (j - 1) j (by omega) hjl
  rcases hk with q | q
  · omega
  · omega
theorem cptI_mem {l : List Int} {x : Int} : x ∈ cptI l ↔ x ∈ l := by
  rw [cptI_eq, List.mem_map]
  constructor
  · rintro ⟨i, hi, rfl⟩
    have := List.mem_range.1 (List.mem_filter.1 hi).1
    simp [List.getD, List.getElem?_eq_getElem this]
  · intro hx
    obtain ⟨i, hi, e⟩ := List.getElem_of_mem hx
    have key : ∀ i, i < l.length → ∃ j, j ≤ i ∧ Lib.keeps l.toArray j = true ∧ l.getD j 0 = l.getD i 0 := by
      intro i
      induction i with
      | zero => exact fun _ => ⟨0, Nat.le_refl _, (keeps_iff l 0).2 (.inl rfl), rfl⟩
      | succ i ih =>
        intro hi
        by_cases g : l.getD (i + 1) 0 = l.getD i 0
        · obtain ⟨j, h1, h2, h3⟩ := ih (by omega)
          exact ⟨j, by omega, h2, by rw [h3, g]⟩
        · exact ⟨i + 1, Nat.le_refl _, (keeps_iff l (i + 1)).2 (.inr g), rfl⟩
    obtain ⟨j, h1, h2, h3⟩ := key i hi
    refine ⟨j, List.mem_filter.2 ⟨List.mem_range.2 (by omega), h2⟩, ?_⟩
    rw [h3]
    simp [List.getD, List.getElem?_eq_getElem hi, e]
/-- Sorted, each once. -/
theorem cpt_sort {l m : List Int} (hm : m.Pairwise (· < ·)) (h : ∀ x, x ∈ l ↔ x ∈ m) : cptI (sortI l) = m :=
  sorted_ext (cptI_lt (sortI_le l)) hm fun x => by rw [cptI_mem, sortI_mem, h]
theorem sort_nd {l m : List Int} (hl : l.Nodup) (hm : m.Pairwise (· < ·)) (h : ∀ x, x ∈ l ↔ x ∈ m) : sortI l = m :=
  sorted_ext (sortI_lt hl) hm fun x => by rw [sortI_mem, h]
end Go.Proofs.Ytbhjmioegdgpnaa
