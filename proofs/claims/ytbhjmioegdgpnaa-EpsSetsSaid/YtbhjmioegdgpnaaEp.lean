import Derived.Test.YtbhjmioegdgpnaaLv
import Derived.Test.YtbhjmioegdgpnaaAbS
import Derived.Test.YtbhjmioegdgpnaaProg
import Derived.Ground.NamesProg
import Derived.Ground.Names2Prog
import Derived.Shelf.Sort.Plain
import Derived.Shelf.Slices.In.SortNone
import Derived.Shelf.Slices.CompactI
import Derived.Test.YtbhjmioegdgpnaaTy
set_option linter.unusedSimpArgs false
set_option linter.unusedVariables false
namespace Go.Proofs.Ytbhjmioegdgpnaa
open Go.Ab
theorem getD_set_self {l : List Bool} {i : Nat} (h : i < l.length) {x d : Bool} : (l.set i x).getD i d = x := by simp [List.getD, h]
theorem getD_set_nq {l : List Bool} {i j : Nat} (h : i ≠ j) {x d : Bool} : (l.set i x).getD j d = l.getD j d := by simp only [List.getD, List.getElem?_set_ne h]
theorem getD_lt_true {l : List Bool} {i : Nat} (h : l.getD i false = true) : i < l.length := by
  rcases Nat.lt_or_ge i l.length with q | q
  · exact q
  · simp [List.getD, List.getElem?_eq_none q] at h
def itF (f : List Bool → List Bool) (o : List Bool) : Nat → List Bool
  | 0 => o
  | r + 1 => f (itF f o r)
section
variable {f : List Bool → List Bool} (hf : ∀ o, bleB o (f o))
include hf
theorem itF_ble (o : List Bool) : ∀ r, bleB o (itF f o r)
  | 0 => bleB_refl o
  | r + 1 => bleB_trans (itF_ble o r) (hf _)
theorem itF_len (o : List Bool) (r : Nat) : (itF f o r).length = o.length := (itF_ble hf o r).1.symm
theorem itF_grows (o : List Bool) : ∀ r, (∃ q, q ≤ r ∧ f (itF f o q) = itF f o q) ∨ r + 1 ≤ (itF f o (r + 1)).count true
  | 0 => by
    by_cases h : f (itF f o 0) = itF f o 0
    · exact .inl ⟨0, Nat.le_refl _, h⟩
    · right
      have hb := ble_count (hf (itF f o 0))
      have : (itF f o 0).count true ≠ (f (itF f o 0)).count true := fun e => h (hb.2 e).symm
      have e : itF f o (0 + 1) = f (itF f o 0) := rfl
      rw [e]; omega
  | r + 1 => by
    rcases itF_grows o r with ⟨q, h1, h2⟩ | h
    · exact .inl ⟨q, by omega, h2⟩
    · by_cases hs : f (itF f o (r + 1)) = itF f o (r + 1)
      · exact .inl ⟨r + 1, Nat.le_refl _, hs⟩
      · right
        have hb := ble_count (hf (itF f o (r + 1)))
        have : (itF f o (r + 1)).count true ≠ (f (itF f o (r + 1))).count true := fun e => hs (hb.2 e).symm
        have e : itF f o (r + 1 + 1) = f (itF f o (r + 1)) := rfl
        rw [e]; omega
omit hf in
theorem itF_stop {o : List Bool} {r : Nat} (h : f (itF f o r) = itF f o r) : ∀ k, itF f o (r + k) = itF f o r
  | 0 => rfl
  | k + 1 => by rw [← Nat.add_assoc, itF, itF_stop h k, h]
theorem itF_stable (o : List Bool) {n : Nat} (hn : o.length ≤ n) : f (itF f o n) = itF f o n := by
  have key : ∃ q, q ≤ n ∧ f (itF f o q) = itF f o q := by
    rcases itF_grows hf o n with h | h
    · exact h
    · exfalso
      have h1 := List.count_le_length (a := true) (l := itF f o (n + 1))
      rw [itF_len hf] at h1; omega
  obtain ⟨q, h1, h2⟩ := key
  have := itF_stop h2 (n - q)
  rw [show q + (n - q) = n by omega] at this
  rw [this]; exact h2
end
abbrev Mv := List (List (Int × Int))
def rowB (r : List (Int × Int)) (b : List Bool) : Nat → List Bool
  | 0 => b
  | j + 1 => if (r.getD j (0, 0)).1 = -1 then (rowB r b j).set (r.getD j (0, 0)).2.toNat true else rowB r b j
def stB (M : Mv) (b : List Bool) (s : Nat) : List Bool := if b.getD s false = true then rowB (M.getD s []) b (M.getD s []).length else b
def swS (M : Mv) (b : List Bool) : Nat → List Bool
  | 0 => b
  | s + 1 => stB M (swS M b s) s
def swB (M : Mv) (b : List Bool) : List Bool := swS M b M.length
def inB (k : Nat) (l : List Int) : Nat → List Bool
  | 0 => List.replicate k false
  | i + 1 => if 0 ≤ l.getD i 0 ∧ l.getD i 0 < (k : Int) then (inB k l i).set (l.getD i 0).toNat true else inB k l i
def cloB (M : Mv) (l : List Int) : List Bool := itF (swB M) (inB M.length l l.length) M.length
def onL (n : Nat) (p : Nat → Bool) : List Int := ((List.range n).filter p).map fun (x : Nat) => (x : Int)
def cloL (M : Mv) (l : List Int) : List Int := onL M.length fun x => (cloB M l).getD x false
theorem onL_mem {n : Nat} {p : Nat → Bool} {x : Int} : x ∈ onL n p ↔ ∃ y : Nat, x = (y : Int) ∧ y < n ∧ p y = true := by
  simp only [onL, List.mem_map, List.mem_filter, List.mem_range]
  constructor
  · rintro ⟨y, ⟨h1, h2⟩, rfl⟩; exact ⟨y, rfl, h1, h2⟩
  · rintro ⟨y, rfl, h1, h2⟩; exact ⟨y, ⟨h1, h2⟩, rfl⟩
theorem onL_sorted (n : Nat) (p : Nat → Bool) : (onL n p).Pairwise (· < ·) := by
  unfold onL
  rw [List.pairwise_map]
  refine List.Pairwise.imp (fun {a b} h => ?_) ((List.pairwise_lt_range (n := n)).filter p)
  exact Int.ofNat_lt.2 h
theorem onL_len (n : Nat) (p : Nat → Bool) : (onL n p).length ≤ n := by
  unfold onL
  rw [List.length_map]
  have := List.length_filter_le p (List.range n)
  simpa using this
theorem onL_succ (n : Nat) (p : Nat → Bool) : onL (n + 1) p = onL n p ++ (if p n = true then [(n : Int)] else []) := by
  unfold onL
  rw [List.range_succ, List.filter_append, List.map_append]
  congr 1
  by_cases h : p n = true <;> simp [h]
theorem sorted_ext : ∀ {a b : List Int}, a.Pairwise (· < ·) → b.Pairwise (· < ·) → (∀ x, x ∈ a ↔ x ∈ b) → a = b
  | [], [], _, _, _ => rfl
  | [], y :: b, _, _, h => by have := (h y).2 (by simp); cases this
  | x :: a, [], _, _, h => by have := (h x).1 (by simp); cases this
  | x :: a, y :: b, h1, h2, h => by
    rw [List.pairwise_cons] at h1 h2
    have e : x = y := by
      rcases List.mem_cons.1 ((h x).1 (by simp)) with q | q
      · exact q
      · rcases List.mem_cons.1 ((h y).2 (by simp)) with r | r
        · exact r.symm
        · have q1 := h2.1 x q
          have q2 := h1.1 y r
          omega
    subst e
    congr 1
    refine sorted_ext h1.2 h2.2 fun z => ⟨fun hz => ?_, fun hz => ?_⟩
    · rcases List.mem_cons.1 ((h z).1 (by simp [hz])) with q | q
      · have := h1.1 z hz; omega
      · exact q
    · rcases List.mem_cons.1 ((h z).2 (by simp [hz])) with q | q
      · have := h2.1 z hz; omega
      · exact q
theorem rowB_ble (r : List (Int × Int)) (b : List Bool) : ∀ j, bleB b (rowB r b j)
  | 0 => bleB_refl b
  | j + 1 => by
    rw [rowB]
    split
    · exact bleB_trans (rowB_ble r b j) (set_ble _ _)
    · exact rowB_ble r b j
theorem stB_ble (M : Mv) (b : List Bool) (s : Nat) : bleB b (stB M b s) := by
  unfold stB
  split
  · exact rowB_ble _ _ _
  · exact bleB_refl b
theorem swS_ble (M : Mv) (b : List Bool) : ∀ s, bleB b (swS M b s)
  | 0 => bleB_refl b
  | s + 1 => bleB_trans (swS_ble M b s) (stB_ble M _ s)
theorem swB_ble (M : Mv) (b : List Bool) : bleB b (swB M b) := swS_ble M b _
theorem inB_len (k : Nat) (l : List Int) : ∀ i, (inB k l i).length = k
  | 0 => by simp [inB]
  | i + 1 => by
    rw [inB]
    split
    · rw [List.length_set, inB_len k l i]
    · exact inB_len k l i
theorem rowB_len (r : List (Int × Int)) (b : List Bool) (j : Nat) : (rowB r b j).length = b.length := (rowB_ble r b j).1.symm
theorem swS_len (M : Mv) (b : List Bool) (s : Nat) : (swS M b s).length = b.length := (swS_ble M b s).1.symm
theorem cloB_len (M : Mv) (l : List Int) : (cloB M l).length = M.length := by
  unfold cloB
  rw [itF_len (swB_ble M), inB_len]
inductive ER (M : Mv) (l : List Int) : Nat → Prop
  | base {x : Nat} (h : (x : Int) ∈ l) (hk : x < M.length) : ER M l x
  | step {s t : Nat} (hs : ER M l s) (hm : ((-1 : Int), (t : Int)) ∈ M.getD s []) (ht : t < M.length) : ER M l t
theorem ER.lt {M : Mv} {l : List Int} {x : Nat} (h : ER M l x) : x < M.length := by
  cases h with
  | base _ hk => exact hk
  | step _ _ ht => exact ht
theorem inB_er {M : Mv} {l : List Int} : ∀ {i : Nat}, i ≤ l.length → ∀ {x : Nat}, (inB M.length l i).getD x false = true → ER M l x
  | 0, _, x, h => by
    have := getD_lt_true h
    rw [inB_len] at this
    simp [inB, List.getD, this] at h
  | i + 1, hi, x, h => by
    rw [inB] at h
    split at h
    · rename_i hc
      by_cases e : (l.getD i 0).toNat = x
      · subst e
        refine .base ?_ (by omega)
        rw [show (((l.getD i 0).toNat : Nat) : Int) = l.getD i 0 by omega]
        simp [List.getD, List.getElem?_eq_getElem (show i < l.length by omega)]
      · rw [getD_set_nq e] at h
        exact inB_er (by omega) h
    · exact inB_er (by omega) h
theorem inB_keep {k : Nat} {l : List Int} {x : Nat} : ∀ {i j : Nat}, (inB k l i).getD x false = true → (inB k l (i + j)).getD x false = true
  | i, 0, h => h
  | i, j + 1, h => by
    rw [← Nat.add_assoc, inB]
    have := inB_keep (j := j) h
    split
    · exact (set_ble _ _).2 x this
    · exact this
theorem inB_base {k : Nat} {l : List Int} {x : Nat} (h : (x : Int) ∈ l) (hx : x < k) : (inB k l l.length).getD x false = true := by
  obtain ⟨i, hi, e⟩ := List.getElem_of_mem h
  have e2 : l.getD i 0 = (x : Int) := by simp [List.getD, List.getElem?_eq_getElem hi, e]
  have : (inB k l (i + 1)).getD x false = true := by
    rw [inB, if_pos (by omega), e2, Int.toNat_natCast]
    exact getD_set_self (by rw [inB_len]; exact hx)
  have := inB_keep (j := l.length - (i + 1)) this
  rwa [show i + 1 + (l.length - (i + 1)) = l.length by omega] at this
section
variable {L k : Nat} {M : Mv} {l : List Int}
theorem rowB_er (h : MOk L k M) {s : Nat} {b : List Bool} (hs : ER M l s) (hb : ∀ {x : Nat}, b.getD x false = true → ER M l x) : ∀ {j : Nat}, j ≤ (M.getD s []).length → ∀ {x : Nat}, (rowB (M.getD s []) b j).getD x false = true → ER M l x
  | 0, _, x, hx => hb hx
  | j + 1, hj, x, hx => by
    rw [rowB] at hx
    split at hx
    · rename_i hc
      have hm : (M.getD s []).getD j (0, 0) ∈ M.getD s [] := by
        generalize M.getD s [] = r at *
        simp [List.getD, List.getElem?_eq_getElem (show j < r.length by omega)]
      have hg := h.get s _ hm
      generalize (M.getD s []).getD j (0, 0) = y at *
      by_cases e : y.2.toNat = x
      · subst e
        refine .step hs ?_ (by have := h.len; omega)
        rw [show ((y.2.toNat : Nat) : Int) = y.2 by omega, ← hc]
        exact hm
      · rw [getD_set_nq e] at hx
        exact rowB_er h hs hb (by omega) hx
    · exact rowB_er h hs hb (by omega) hx
theorem swS_er (h : MOk L k M) {b : List Bool} (hb : ∀ {x : Nat}, b.getD x false = true → ER M l x) : ∀ {s x : Nat}, (swS M b s).getD x false = true → ER M l x
  | 0, x, hx => hb hx
  | s + 1, x, hx => by
    rw [swS, stB] at hx
    split at hx
    · rename_i hc
      exact rowB_er h (swS_er h hb hc) (fun hx => swS_er h hb hx) (Nat.le_refl _) hx
    · exact swS_er h hb hx
theorem itF_er (h : MOk L k M) {b : List Bool} (hb : ∀ {x : Nat}, b.getD x false = true → ER M l x) : ∀ {r x : Nat}, (itF (swB M) b r).getD x false = true → ER M l x
  | 0, x, hx => hb hx
  | r + 1, x, hx => swS_er h (fun hx => itF_er h hb hx) hx
theorem rowB_has {r : List (Int × Int)} {b : List Bool} {t : Nat} (hm : ((-1 : Int), (t : Int)) ∈ r) (ht : t < b.length) : (rowB r b r.length).getD t false = true := by
  obtain ⟨i, hi, e⟩ := List.getElem_of_mem hm
  have e2 : r.getD i (0, 0) = (-1, (t : Int)) := by simp [List.getD, List.getElem?_eq_getElem hi, e]
  have h1 : (rowB r b (i + 1)).getD t false = true := by
    rw [rowB, e2, if_pos rfl]
    exact getD_set_self (by rw [rowB_len]; exact ht)
  have h2 : ∀ j, (rowB r b (i + 1 + j)).getD t false = true := fun j => by
    induction j with
    | zero => exact h1
    | succ j ih =>
      rw [← Nat.add_assoc, rowB]
      split
      · exact (set_ble _ _).2 t ih
      · exact ih
  have := h2 (r.length - (i + 1))
  rwa [show i + 1 + (r.length - (i + 1)) = r.length by omega] at this
theorem swS_eq {b : List Bool} (h : swB M b = b) : ∀ i, i ≤ M.length → swS M b i = b := by
  intro i hi
  have h1 : bleB b (swS M b i) := swS_ble M b i
  have h2 : ∀ k, bleB (swS M b i) (swS M b (i + k)) := fun k => by
    induction k with
    | zero => exact bleB_refl _
    | succ k ih => exact bleB_trans ih (stB_ble M _ _)
  have h3 := h2 (M.length - i)
  rw [show i + (M.length - i) = M.length by omega, show swS M b M.length = b from h] at h3
  have c1 := ble_count h1
  have c2 := ble_count h3
  exact (c1.2 (by omega)).symm
theorem cloB_iff (h : MOk L k M) {x : Nat} : (cloB M l).getD x false = true ↔ ER M l x := by
  constructor
  · exact itF_er h fun hx => inB_er (Nat.le_refl _) hx
  · intro hx
    have hst : swB M (cloB M l) = cloB M l := itF_stable (swB_ble M) _ (by rw [inB_len]; exact Nat.le_refl _)
    induction hx with
    | base hm hk => exact (itF_ble (swB_ble M) _ _).2 _ (inB_base hm hk)
    | @step s t hs hm ht ih =>
      have hsl : s < M.length := by have := getD_lt_true ih; rwa [cloB_len] at this
      have h1 := swS_eq hst s (by omega)
      have h2 := swS_eq hst (s + 1) (by omega)
      rw [swS, h1, stB, if_pos ih] at h2
      rw [← h2]
      exact rowB_has hm (by rw [cloB_len]; exact ht)
theorem cloL_mem (h : MOk L k M) {x : Int} : x ∈ cloL M l ↔ ∃ y : Nat, x = (y : Int) ∧ ER M l y := by
  unfold cloL
  rw [onL_mem]
  constructor
  · rintro ⟨y, rfl, h1, h2⟩; exact ⟨y, rfl, (cloB_iff h).1 h2⟩
  · rintro ⟨y, rfl, h2⟩; exact ⟨y, rfl, h2.lt, (cloB_iff h).2 h2⟩
end
def stepP (M : Mv) (l : List Int) (a : Int) (s : Nat) : Bool := (List.range M.length).any fun i => l.contains (i : Int) && (M.getD i []).any fun m => m.1 == a && m.2 == (s : Int)
def stepL (M : Mv) (l : List Int) (a : Int) : List Int := onL M.length (stepP M l a)
theorem stepL_mem {L k : Nat} {M : Mv} (h : MOk L k M) {l : List Int} {a x : Int} : x ∈ stepL M l a ↔ ∃ i : Nat, (i : Int) ∈ l ∧ (a, x) ∈ M.getD i [] := by
  unfold stepL
  rw [onL_mem]
  constructor
  · rintro ⟨y, rfl, h1, h2⟩
    simp only [stepP, List.any_eq_true, List.mem_range, Bool.and_eq_true, List.contains_iff_mem, beq_iff_eq] at h2
    obtain ⟨i, hi, hl, ⟨m1, m2⟩, hm, e1, e2⟩ := h2
    simp only at e1 e2
    subst e1 e2
    exact ⟨i, hl, hm⟩
  · rintro ⟨i, hl, hm⟩
    have hg := h.get i _ hm
    have hi : i < M.length := by
      rcases Nat.lt_or_ge i M.length with q | q
      · exact q
      · simp [List.getD, List.getElem?_eq_none q] at hm
    simp only at hg
    refine ⟨x.toNat, by omega, by have := h.len; omega, ?_⟩
    simp only [stepP, List.any_eq_true, List.mem_range, Bool.and_eq_true, List.contains_iff_mem, beq_iff_eq]
    exact ⟨i, hi, hl, _, hm, rfl, by simp only; omega⟩
def outL (L : Nat) (M : Mv) (l : List Int) : List Int := onL L fun a => !(stepL M l (a : Int)).isEmpty
theorem outL_mem {L k : Nat} {M : Mv} (h : MOk L k M) {l : List Int} {a : Int} : a ∈ outL L M l ↔ 0 ≤ a ∧ ∃ (i : Nat) (x : Int), (i : Int) ∈ l ∧ (a, x) ∈ M.getD i [] := by
  unfold outL
  rw [onL_mem]
  constructor
  · rintro ⟨y, rfl, h1, h2⟩
    refine ⟨by omega, ?_⟩
    obtain ⟨x, hx⟩ := List.exists_mem_of_ne_nil (stepL M l (y : Int)) (by intro e; rw [e] at h2; cases h2)
    obtain ⟨i, h3, h4⟩ := (stepL_mem h).1 hx
    exact ⟨i, x, h3, h4⟩
  · rintro ⟨h0, i, x, h1, h2⟩
    have hg := h.get i _ h2
    simp only at hg
    refine ⟨a.toNat, by omega, by omega, ?_⟩
    have hx := (stepL_mem h (l := l)).2 ⟨i, h1, h2⟩
    rw [show ((a.toNat : Nat) : Int) = a by omega]
    cases hs : stepL M l a with
    | nil => rw [hs] at hx; cases hx
    | cons y t => rfl
def finL (F : List Bool) (l : List Int) : Bool := l.any fun s => decide (0 ≤ s) && decide (s < (F.length : Int)) && F.getD s.toNat false
def takS (M : Mv) (l : List Int) : List Int → List Int
  | [] => l
  | a :: w => takS M (cloL M (stepL M l a)) w
def takB (M : Mv) (F : List Bool) (st : Nat) (w : List Int) : Bool := finL F (takS M (cloL M [(st : Int)]) w)
end Go.Proofs.Ytbhjmioegdgpnaa
namespace Go.Proofs
open Go.Shelf
def Try.laysSort_ren : Go.Shelf.Ren := ⟨fun | 189 => 28 | 125 => 43 | 257 => 42 | 128 => 60 | 129 => 61 | 294 => 51 | 295 => 52 | 296 => 53 | 297 => 54 | 298 => 55 | 299 => 56 | 216 => 57 | 300 => 58 | 301 => 59 | 328 => 64 | 329 => 65 | 330 => 66 | 331 => 67 | 332 => 68 | 215 => 69 | 343 => 70 | n => n, fun | 28 => 32 | 3 => 3 | 46 => 35 | 0 => 0 | 51 => 87 | 53 => 89 | 4 => 4 | 183 => 80 | 182 => 79 | 131 => 62 | 5 => 5 | 9 => 9 | 218 => 92 | 222 => 96 | 228 => 98 | 229 => 99 | n => n, fun | n => n⟩
theorem Try.laysSort : Go.Proofs.Lays.n189 Try.prog Try.laysSort_ren := {
  mixed := by kernel_rfl
  f125 := Try.func43.trans (congrArg some (by kernel_rfl))
  f128 := Try.func60.trans (congrArg some (by kernel_rfl))
  f129 := Try.func61.trans (congrArg some (by kernel_rfl))
  f189 := Try.func28.trans (congrArg some (by kernel_rfl))
  f215 := Try.func69.trans (congrArg some (by kernel_rfl))
  f216 := Try.func57.trans (congrArg some (by kernel_rfl))
  f257 := Try.func42.trans (congrArg some (by kernel_rfl))
  f294 := Try.func51.trans (congrArg some (by kernel_rfl))
  f295 := Try.func52.trans (congrArg some (by kernel_rfl))
  f296 := Try.func53.trans (congrArg some (by kernel_rfl))
  f297 := Try.func54.trans (congrArg some (by kernel_rfl))
  f298 := Try.func55.trans (congrArg some (by kernel_rfl))
  f299 := Try.func56.trans (congrArg some (by kernel_rfl))
  f300 := Try.func58.trans (congrArg some (by kernel_rfl))
  f301 := Try.func59.trans (congrArg some (by kernel_rfl))
  f328 := Try.func64.trans (congrArg some (by kernel_rfl))
  f329 := Try.func65.trans (congrArg some (by kernel_rfl))
  f330 := Try.func66.trans (congrArg some (by kernel_rfl))
  f331 := Try.func67.trans (congrArg some (by kernel_rfl))
  f332 := Try.func68.trans (congrArg some (by kernel_rfl))
  f343 := Try.func70.trans (congrArg some (by kernel_rfl))
  t0 := Try.underlying0
  a0 := Try.isAgg0
  z0 := Try.sizeOf0
  v0 := Try.zeroValue0
  t3 := Try.underlying3
  a3 := Try.isAgg3
  z3 := Try.sizeOf3
  v3 := Try.zeroValue3
  t4 := Try.underlying4
  a4 := Try.isAgg4
  z4 := Try.sizeOf4
  v4 := Try.zeroValue4
  t5 := Try.underlying5
  a5 := Try.isAgg5
  z5 := Try.sizeOf5
  v5 := Try.zeroValue5
  t9 := Try.underlying9
  a9 := Try.isAgg9
  z9 := Try.sizeOf9
  v9 := Try.zeroValue9
  t28 := Try.underlying32
  a28 := Try.isAgg32
  z28 := Try.sizeOf32
  v28 := Try.zeroValue32
  t46 := Try.underlying35
  a46 := Try.isAgg35
  z46 := Try.sizeOf35
  v46 := Try.zeroValue35
  t51 := Try.underlying87
  a51 := Try.isAgg87
  z51 := Try.sizeOf87
  v51 := Try.zeroValue87
  t53 := Try.underlying89
  a53 := Try.isAgg89
  z53 := Try.sizeOf89
  v53 := Try.zeroValue89
  t131 := Try.underlying62
  a131 := Try.isAgg62
  z131 := Try.sizeOf62
  v131 := Try.zeroValue62
  t182 := Try.underlying79
  a182 := Try.isAgg79
  z182 := Try.sizeOf79
  v182 := Try.zeroValue79
  t183 := Try.underlying80
  a183 := Try.isAgg80
  z183 := Try.sizeOf80
  v183 := Try.zeroValue80
  t218 := Try.underlying92
  a218 := Try.isAgg92
  z218 := Try.sizeOf92
  v218 := Try.zeroValue92
  t222 := Try.underlying96
  a222 := Try.isAgg96
  z222 := Try.sizeOf96
  v222 := Try.zeroValue96
  t228 := Try.underlying98
  a228 := Try.isAgg98
  z228 := Try.sizeOf98
  v228 := Try.zeroValue98
  t229 := Try.underlying99
  a229 := Try.isAgg99
  z229 := Try.sizeOf99
  v229 := Try.zeroValue99 }
def Try.laysCompact_ren : Go.Shelf.Ren := ⟨fun | 20 => 29 | n => n, fun | 22 => 32 | 3 => 3 | 4 => 4 | 0 => 0 | n => n, fun | n => n⟩
theorem Try.laysCompact : Go.Proofs.Lays2.n20 Try.prog Try.laysCompact_ren := {
  mixed := by kernel_rfl
  f20 := Try.func29.trans (congrArg some (by kernel_rfl))
  t0 := Try.underlying0
  a0 := Try.isAgg0
  z0 := Try.sizeOf0
  v0 := Try.zeroValue0
  t3 := Try.underlying3
  a3 := Try.isAgg3
  z3 := Try.sizeOf3
  v3 := Try.zeroValue3
  t4 := Try.underlying4
  a4 := Try.isAgg4
  z4 := Try.sizeOf4
  v4 := Try.zeroValue4
  t22 := Try.underlying32
  a22 := Try.isAgg32
  z22 := Try.sizeOf32
  v22 := Try.zeroValue32
  i3 := by kernel_rfl }
end Go.Proofs
namespace Go.Proofs.Ytbhjmioegdgpnaa
open Go.Ab
theorem c_SortI (l : List Int) (hl : l.length ≤ 1000000) : ContractM Try.prog 28 [{ sz := 1, rows := ints l }] [.own 0 0 l.length] (.tup []) [some { sz := 1, rows := ints (sortI l) }] :=
  contractM_sort (fun blk off cap zs w hH hb hz => Any.slices_Sort_int Try.laysSort blk off cap zs w hH hb hz) (fun p cap w => Any.slices_Sort_int_none Try.laysSort p cap w) l (by omega)
theorem c_CompactI (l : List Int) (hl : l.length ≤ 1000000) : ContractM Try.prog 29 [{ sz := 1, rows := ints l }] [.own 0 0 l.length] (.own 0 0 (cptI l).length) [some { sz := 1, rows := ints (cpzI l) }] :=
  contractM_compact (fun blk off cap zs w hH hb hz => Any.slices_Compact_int Try.laysCompact blk off cap zs w hH hb hz) (fun p cap w => Any.slices_Compact_int_empty Try.laysCompact p cap w) l (by omega)
theorem cpzI_take (l : List Int) : (cpzI l).take (cptI l).length = cptI l := by simp [cpzI]
theorem sortI_mem {l : List Int} {x : Int} : x ∈ sortI l ↔ x ∈ l := (sortI_perm l).mem_iff
theorem sortI_le (l : List Int) : (sortI l).Pairwise (· ≤ ·) := by
  have := List.pairwise_mergeSort (le := fun x y : Int => decide (x ≤ y)) (fun a b c h1 h2 => by simp only [decide_eq_true_eq] at *; omega) (fun a b => by simp only [Bool.or_eq_true, decide_eq_true_eq]; omega) l
  exact this.imp fun h => by simpa using h
theorem sortI_lt {l : List Int} (h : l.Nodup) : (sortI l).Pairwise (· < ·) := by
  have h1 := sortI_le l
  have h2 : (sortI l).Nodup := (sortI_perm l).nodup_iff.2 h
  exact h1.imp₂ (fun a b p q => by have : a ≠ b := q; omega) h2
theorem arr_get (l : List Int) (i : Nat) : l.toArray[i]! = l.getD i 0 := by
  rcases Nat.lt_or_ge i l.length with h | h
  · simp [List.getD, h]
  · simp [List.getD, List.getElem?_eq_none h]
theorem keeps_iff (l : List Int) (i : Nat) : Lib.keeps l.toArray i = true ↔ i = 0 ∨ l.getD i 0 ≠ l.getD (i - 1) 0 := by
  unfold Lib.keeps
  rw [arr_get, arr_get, decide_eq_true_eq]
theorem cptI_eq (l : List Int) : cptI l = ((List.range l.length).filter (Lib.keeps l.toArray)).map fun i => l.getD i 0 := by
  unfold cptI Lib.compact Lib.compactUpTo
  apply List.map_congr_left
  intro i _
  exact arr_get l i
theorem cptI_lt {l : List Int} (h : l.Pairwise (· ≤ ·)) : (cptI l).Pairwise (· < ·) := by
  have hm : ∀ i j, i ≤ j → j < l.length → l.getD i 0 ≤ l.getD j 0 := fun i j hij hj => by
    rcases Nat.lt_or_ge i j with q | q
    · have := List.pairwise_iff_getElem.1 h i j (by omega) hj q
      simpa [List.getD, hj, show i < l.length by omega] using this
    · rw [show i = j by omega]; exact Int.le_refl _
  rw [cptI_eq, List.pairwise_map]
  have h1 : ((List.range l.length).filter (Lib.keeps l.toArray)).Pairwise (· < ·) := (List.pairwise_lt_range (n := l.length)).filter _
  refine h1.imp_of_mem fun {i j} hi hj hij => ?_
  have hjl := List.mem_range.1 (List.mem_filter.1 hj).1
  have hk := (keeps_iff l j).1 (List.mem_filter.1 hj).2
  have a1 := hm i (j - 1) (by omega) (by omega)
  have a2 := hm (j - 1) j (by omega) hjl
  rcases hk with q | q
  · omega
  · omega
theorem cptI_mem {l : List Int} {x : Int} : x ∈ cptI l ↔ x ∈ l := by
  rw [cptI_eq, List.mem_map]
  constructor
  · rintro ⟨i, hi, rfl⟩
    have := List.mem_range.1 (List.mem_filter.1 hi).1
    simp [List.getD, List.getElem?_eq_getElem this]
  · intro hx
    obtain ⟨i, hi, e⟩ := List.getElem_of_mem hx
    have key : ∀ i, i < l.length → ∃ j, j ≤ i ∧ Lib.keeps l.toArray j = true ∧ l.getD j 0 = l.getD i 0 := by
      intro i
      induction i with
      | zero => exact fun _ => ⟨0, Nat.le_refl _, (keeps_iff l 0).2 (.inl rfl), rfl⟩
      | succ i ih =>
        intro hi
        by_cases g : l.getD (i + 1) 0 = l.getD i 0
        · obtain ⟨j, h1, h2, h3⟩ := ih (by omega)
          exact ⟨j, by omega, h2, by rw [h3, g]⟩
        · exact ⟨i + 1, Nat.le_refl _, (keeps_iff l (i + 1)).2 (.inr g), rfl⟩
    obtain ⟨j, h1, h2, h3⟩ := key i hi
    refine ⟨j, List.mem_filter.2 ⟨List.mem_range.2 (by omega), h2⟩, ?_⟩
    rw [h3]
    simp [List.getD, List.getElem?_eq_getElem hi, e]
theorem cpt_sort {l m : List Int} (hm : m.Pairwise (· < ·)) (h : ∀ x, x ∈ l ↔ x ∈ m) : cptI (sortI l) = m :=
  sorted_ext (cptI_lt (sortI_le l)) hm fun x => by rw [cptI_mem, sortI_mem, h]
theorem sort_nd {l m : List Int} (hl : l.Nodup) (hm : m.Pairwise (· < ·)) (h : ∀ x, x ∈ l ↔ x ∈ m) : sortI l = m :=
  sorted_ext (sortI_lt hl) hm fun x => by rw [sortI_mem, h]
def idxP {α : Type} (p : α → Bool) : List α → Nat → Int
  | [], _ => -1
  | x :: l, k => if p x = true then (k : Int) else idxP p l (k + 1)
theorem idxP_any {α : Type} (p : α → Bool) : ∀ (l : List α) (k : Nat), decide (idxP p l k ≥ 0) = l.any p
  | [], k => by simp [idxP]
  | x :: l, k => by
    rw [idxP]
    cases h : p x
    · simp only [Bool.false_eq_true, if_false, idxP_any p l (k + 1), List.any_cons, h, Bool.false_or]
    · simp [h]
theorem drop_getD {α : Type} {l : List α} {i : Nat} (h : i < l.length) (d : α) : l.drop i = l.getD i d :: l.drop (i + 1) := by
  rw [List.drop_eq_getElem_cons h]; simp [List.getD, List.getElem?_eq_getElem h]
theorem getD_mem {α : Type} {l : List α} {i : Nat} (h : i < l.length) (d : α) : l.getD i d ∈ l := by
  rw [List.getD, List.getElem?_eq_getElem h]; exact List.getElem_mem _
set_option maxHeartbeats 4000000 in
theorem c_IdxI (g : Nat) (row : List D) (hg : FnOk Try.prog g) (p : Int → Bool) (f : Bool) (l : List Int) (hl : l.length ≤ 100000) (hp : ∀ x ∈ l, Contract Try.prog g [i64 x, .ref row 0] (bo (p x)) []) :
    Contract Try.prog 44 [.sl f (ints l), .fn (.func g) 0 [.ref row 0]] (i64 (idxP p l 0)) [] := by
  refine contract_of_awp (rs := [4]) Try.func44 rfl Try.ntmps44 (by simp) rfl fun E => ?_
  (repeat (first | refine awp_seq ?_ | refine awp_block ?_ | ((first | refine awp_skip ?_ | refine awp_exit ?_ | refine awp_reg ttok ?_ | (refine awp_draw ttok ?dr_calm ?_; (case dr_calm => decide +kernel)) | refine awp_condM ?_); simp (maxSteps := 4000000) only [↓reduceIte, Nat.reduceLT, Nat.reduceEqDiff, reduceCtorEq, Nat.reduceAdd, Nat.reduceMul, Int.reduceLE, Int.reduceLT, Int.reduceToNat, Nat.reduceLeDiff, Nat.reduceSub, Int.reduceEq, Nat.reduceBEq, List.replicate, List.set, evB, tyA]; (repeat (with_reducible refine And.intro ?_ ?_; exact sdX)); (with_reducible first | refine awp_id ?_ | refine id_call ?_ | refine id_and ?_ | refine id_ex ?_ | refine id_all ?_ | refine id_nat ?_ | refine id_le ?_))))
  refine awp_loop (X := Nat) (fun i => mkS 19 [(0, .sl f (ints l)), (1, .fn (.func g) 0 [.ref row 0]), (7, i64 l.length), (8, i64 i)] []) (fun i => i ≤ l.length ∧ idxP p (l.drop i) i = idxP p l 0) (fun i => l.length - i) 0 ⟨by omega, rfl⟩ (mkS_le rfl ?_ trivial) ?_
  · simp (maxSteps := 4000000) only [↓reduceIte, Nat.reduceLT, Nat.reduceEqDiff, reduceCtorEq, Nat.reduceAdd, Nat.reduceMul, Int.reduceLE, Int.reduceLT, Int.reduceToNat, Nat.reduceLeDiff, Nat.reduceSub, Int.reduceEq, Nat.reduceBEq, List.replicate, List.set, evB]
    try rfl
  · rintro i ⟨hi, hq⟩
    by_cases hlt : i < l.length
    · have d1 : decide ((i : Int) < (l.length : Int)) = true := by simpa using hlt
      have gi := ints_get hlt
      have hpx := hp _ (getD_mem hlt 0)
      rw [drop_getD hlt 0, idxP] at hq
      generalize l.getD i 0 = x at gi hq hpx
      have hwi : IntKind.i64.wrap ((i : Int) + 1) = ((i + 1 : Nat) : Int) := i64_in (by omega) (by omega)
      (repeat (first | refine awp_seq ?_ | refine awp_block ?_ | ((first | refine awp_skip ?_ | refine awp_exit ?_ | refine awp_reg ttok ?_ | (refine awp_draw ttok ?dr_calm ?_; (case dr_calm => decide +kernel)) | refine awp_condM ?_); simp (maxSteps := 4000000) only [↓reduceIte, Nat.reduceLT, Nat.reduceEqDiff, reduceCtorEq, Nat.reduceAdd, Nat.reduceMul, Int.reduceLE, Int.reduceLT, Int.reduceToNat, Nat.reduceLeDiff, Nat.reduceSub, Int.reduceEq, Nat.reduceBEq, List.replicate, List.set, evB, tyA, d1, gi]; (repeat (with_reducible refine And.intro ?_ ?_; exact sdX)); (with_reducible first | refine awp_id ?_ | refine id_call ?_ | refine id_and ?_ | refine id_ex ?_ | refine id_all ?_ | refine id_nat ?_ | refine id_le ?_))))
      refine callVC_scal hg hpx rfl ?_
      cases he : p x
      · rw [he, if_neg (by simp)] at hq
        simp (maxSteps := 4000000) only [↓reduceIte, Nat.reduceLT, Nat.reduceEqDiff, reduceCtorEq, Nat.reduceAdd, Nat.reduceMul, Int.reduceLE, Int.reduceLT, Int.reduceToNat, Nat.reduceLeDiff, Nat.reduceSub, Int.reduceEq, Nat.reduceBEq, List.replicate, List.set, evB, tyA, he]
        (repeat (with_reducible refine And.intro ?_ ?_; exact sdX))
        (repeat (first | refine awp_seq ?_ | refine awp_block ?_ | ((first | refine awp_skip ?_ | refine awp_exit ?_ | refine awp_reg ttok ?_ | (refine awp_draw ttok ?dr_calm ?_; (case dr_calm => decide +kernel)) | refine awp_condM ?_); simp (maxSteps := 4000000) only [↓reduceIte, Nat.reduceLT, Nat.reduceEqDiff, reduceCtorEq, Nat.reduceAdd, Nat.reduceMul, Int.reduceLE, Int.reduceLT, Int.reduceToNat, Nat.reduceLeDiff, Nat.reduceSub, Int.reduceEq, Nat.reduceBEq, List.replicate, List.set, evB, tyA, he, hwi]; (repeat (with_reducible refine And.intro ?_ ?_; exact sdX)); (with_reducible first | refine awp_id ?_ | refine id_call ?_ | refine id_and ?_ | refine id_ex ?_ | refine id_all ?_ | refine id_nat ?_ | refine id_le ?_))))
        refine ⟨i + 1, ⟨by omega, hq⟩, by omega, mkS_le rfl ?_ trivial⟩
        simp (maxSteps := 4000000) only [↓reduceIte, Nat.reduceLT, Nat.reduceEqDiff, reduceCtorEq, Nat.reduceAdd, Nat.reduceMul, Int.reduceLE, Int.reduceLT, Int.reduceToNat, Nat.reduceLeDiff, Nat.reduceSub, Int.reduceEq, Nat.reduceBEq, List.replicate, List.set, evB]
      · rw [he, if_pos rfl] at hq
        simp (maxSteps := 4000000) only [↓reduceIte, Nat.reduceLT, Nat.reduceEqDiff, reduceCtorEq, Nat.reduceAdd, Nat.reduceMul, Int.reduceLE, Int.reduceLT, Int.reduceToNat, Nat.reduceLeDiff, Nat.reduceSub, Int.reduceEq, Nat.reduceBEq, List.replicate, List.set, evB, tyA, he]
        (repeat (with_reducible refine And.intro ?_ ?_; exact sdX))
        (repeat (first | refine awp_seq ?_ | refine awp_block ?_ | ((first | refine awp_skip ?_ | refine awp_exit ?_ | refine awp_reg ttok ?_ | (refine awp_draw ttok ?dr_calm ?_; (case dr_calm => decide +kernel)) | refine awp_condM ?_); simp (maxSteps := 4000000) only [↓reduceIte, Nat.reduceLT, Nat.reduceEqDiff, reduceCtorEq, Nat.reduceAdd, Nat.reduceMul, Int.reduceLE, Int.reduceLT, Int.reduceToNat, Nat.reduceLeDiff, Nat.reduceSub, Int.reduceEq, Nat.reduceBEq, List.replicate, List.set, evB, tyA, he]; (repeat (with_reducible refine And.intro ?_ ?_; exact sdX)); (with_reducible first | refine awp_id ?_ | refine id_call ?_ | refine id_and ?_ | refine id_ex ?_ | refine id_all ?_ | refine id_nat ?_ | refine id_le ?_))))
        exact awp_ret (ends_plain (.inr rfl) rfl (by simp (maxSteps := 4000000) only [↓reduceIte, Nat.reduceLT, Nat.reduceEqDiff, reduceCtorEq, Nat.reduceAdd, Nat.reduceMul, Int.reduceLE, Int.reduceLT, Int.reduceToNat, Nat.reduceLeDiff, Nat.reduceSub, Int.reduceEq, Nat.reduceBEq, List.replicate, List.set, evB, hq]))
    · have d1 : decide ((i : Int) < (l.length : Int)) = false := by simpa using hlt
      rw [List.drop_of_length_le (by omega)] at hq
      have hm : idxP p l 0 = -1 := by rw [← hq]; rfl
      (repeat (first | refine awp_seq ?_ | refine awp_block ?_ | ((first | refine awp_skip ?_ | refine awp_exit ?_ | refine awp_reg ttok ?_ | (refine awp_draw ttok ?dr_calm ?_; (case dr_calm => decide +kernel)) | refine awp_condM ?_); simp (maxSteps := 4000000) only [↓reduceIte, Nat.reduceLT, Nat.reduceEqDiff, reduceCtorEq, Nat.reduceAdd, Nat.reduceMul, Int.reduceLE, Int.reduceLT, Int.reduceToNat, Nat.reduceLeDiff, Nat.reduceSub, Int.reduceEq, Nat.reduceBEq, List.replicate, List.set, evB, tyA, d1]; (repeat (with_reducible refine And.intro ?_ ?_; exact sdX)); (with_reducible first | refine awp_id ?_ | refine id_call ?_ | refine id_and ?_ | refine id_ex ?_ | refine id_all ?_ | refine id_nat ?_ | refine id_le ?_))))
      exact awp_ret (ends_plain (.inr rfl) rfl (by simp (maxSteps := 4000000) only [↓reduceIte, Nat.reduceLT, Nat.reduceEqDiff, reduceCtorEq, Nat.reduceAdd, Nat.reduceMul, Int.reduceLE, Int.reduceLT, Int.reduceToNat, Nat.reduceLeDiff, Nat.reduceSub, Int.reduceEq, Nat.reduceBEq, List.replicate, List.set, evB, hm]))
theorem c_CtI (g : Nat) (row : List D) (hg : FnOk Try.prog g) (p : Int → Bool) (f : Bool) (l : List Int) (hl : l.length ≤ 100000) (hp : ∀ x ∈ l, Contract Try.prog g [i64 x, .ref row 0] (bo (p x)) []) :
    Contract Try.prog 31 [.sl f (ints l), .fn (.func g) 0 [.ref row 0]] (bo (l.any p)) [] := by
  refine contract_of_awp (rs := [4]) Try.func31 rfl Try.ntmps31 (by simp) rfl fun E => ?_
  have ha := idxP_any p l 0
  (repeat (first | refine awp_seq ?_ | refine awp_block ?_ | ((first | refine awp_skip ?_ | refine awp_exit ?_ | refine awp_reg ttok ?_ | (refine awp_draw ttok ?dr_calm ?_; (case dr_calm => decide +kernel)) | refine awp_condM ?_); simp (maxSteps := 4000000) only [↓reduceIte, Nat.reduceLT, Nat.reduceEqDiff, reduceCtorEq, Nat.reduceAdd, Nat.reduceMul, Int.reduceLE, Int.reduceLT, Int.reduceToNat, Nat.reduceLeDiff, Nat.reduceSub, Int.reduceEq, Nat.reduceBEq, List.replicate, List.set, evB, tyA]; (repeat (with_reducible refine And.intro ?_ ?_; exact sdX)); (with_reducible first | refine awp_id ?_ | refine id_call ?_ | refine id_and ?_ | refine id_ex ?_ | refine id_all ?_ | refine id_nat ?_ | refine id_le ?_))))
  refine callVC_scal fnok44 (c_IdxI g row hg p f l hl hp) rfl ?_
  simp (maxSteps := 4000000) only [↓reduceIte, Nat.reduceLT, Nat.reduceEqDiff, reduceCtorEq, Nat.reduceAdd, Nat.reduceMul, Int.reduceLE, Int.reduceLT, Int.reduceToNat, Nat.reduceLeDiff, Nat.reduceSub, Int.reduceEq, Nat.reduceBEq, List.replicate, List.set, evB, tyA, ha]
  (repeat (with_reducible refine And.intro ?_ ?_; exact sdX))
  (repeat (first | refine awp_seq ?_ | refine awp_block ?_ | ((first | refine awp_skip ?_ | refine awp_exit ?_ | refine awp_reg ttok ?_ | (refine awp_draw ttok ?dr_calm ?_; (case dr_calm => decide +kernel)) | refine awp_condM ?_); simp (maxSteps := 4000000) only [↓reduceIte, Nat.reduceLT, Nat.reduceEqDiff, reduceCtorEq, Nat.reduceAdd, Nat.reduceMul, Int.reduceLE, Int.reduceLT, Int.reduceToNat, Nat.reduceLeDiff, Nat.reduceSub, Int.reduceEq, Nat.reduceBEq, List.replicate, List.set, evB, tyA, ha]; (repeat (with_reducible refine And.intro ?_ ?_; exact sdX)); (with_reducible first | refine awp_id ?_ | refine id_call ?_ | refine id_and ?_ | refine id_ex ?_ | refine id_all ?_ | refine id_nat ?_ | refine id_le ?_))))
  exact awp_ret (ends_plain (.inr rfl) rfl evX)
def gat1 (M : Mv) (p : Int × Int → Option Int) (s : Int) : List Int := if 0 ≤ s ∧ s < (M.length : Int) then (M.getD s.toNat []).filterMap p else []
def gat (M : Mv) (p : Int × Int → Option Int) (l : List Int) : List Int := l.flatMap (gat1 M p)
theorem gat_succ (M : Mv) (p : Int × Int → Option Int) {l : List Int} {i : Nat} (h : i < l.length) : gat M p (l.take (i + 1)) = gat M p (l.take i) ++ gat1 M p (l.getD i 0) := by
  unfold gat
  rw [take_snoc h 0, List.flatMap_append]
  simp
theorem gat_bound {M : Mv} {p : Int × Int → Option Int} {R : Nat} (hR : ∀ s, (M.getD s []).length ≤ R) : ∀ l : List Int, (gat M p l).length ≤ l.length * R
  | [] => by simp [gat]
  | s :: l => by
    have ih := gat_bound (p := p) hR l
    have h1 : (gat1 M p s).length ≤ R := by
      unfold gat1
      split
      · exact Nat.le_trans (List.length_filterMap_le _ _) (hR _)
      · simp
    have e : gat M p (s :: l) = gat1 M p s ++ gat M p l := rfl
    rw [e, List.length_append, List.length_cons, Nat.add_mul, Nat.one_mul]
    omega
theorem gat_mem {M : Mv} {p : Int × Int → Option Int} {l : List Int} {x : Int} : x ∈ gat M p l ↔ ∃ i : Nat, (i : Int) ∈ l ∧ ∃ m ∈ M.getD i [], p m = some x := by
  simp only [gat, List.mem_flatMap, gat1]
  constructor
  · rintro ⟨s, hs, hx⟩
    split at hx
    · rename_i hc
      obtain ⟨m, hm, e⟩ := List.mem_filterMap.1 hx
      exact ⟨s.toNat, by rwa [show ((s.toNat : Nat) : Int) = s by omega], m, hm, e⟩
    · cases hx
  · rintro ⟨i, hi, m, hm, e⟩
    have hl : i < M.length := by
      rcases Nat.lt_or_ge i M.length with q | q
      · exact q
      · simp [List.getD, List.getElem?_eq_none q] at hm
    refine ⟨_, hi, ?_⟩
    rw [if_pos (by omega), Int.toNat_natCast]
    exact List.mem_filterMap.2 ⟨m, hm, e⟩
theorem fm_succ (p : Int × Int → Option Int) {r : List (Int × Int)} {j : Nat} (h : j < r.length) : (r.take (j + 1)).filterMap p = (r.take j).filterMap p ++ (match p (r.getD j (0, 0)) with | some x => [x] | none => []) := by
  rw [take_snoc h (0, 0), List.filterMap_append]
  congr 1
  generalize r.getD j (0, 0) = m
  rw [List.filterMap_cons, List.filterMap_nil]
  cases p m <;> rfl
def pStep (a : Int) (m : Int × Int) : Option Int := if m.1 = a then some m.2 else none
def pOut (m : Int × Int) : Option Int := if 0 ≤ m.1 then some m.1 else none
theorem step_is {L k : Nat} {M : Mv} (h : MOk L k M) (l : List Int) (a : Int) : cptI (sortI (gat M (pStep a) l)) = stepL M l a := by
  refine cpt_sort (onL_sorted _ _) fun x => ?_
  rw [gat_mem, stepL_mem h]
  constructor
  · rintro ⟨i, hi, ⟨m1, m2⟩, hm, e⟩
    unfold pStep at e
    split at e
    · rename_i q
      simp only [Option.some.injEq] at e q
      subst e q
      exact ⟨i, hi, hm⟩
    · cases e
  · rintro ⟨i, hi, hm⟩
    exact ⟨i, hi, _, hm, by unfold pStep; rw [if_pos rfl]⟩
theorem out_is {L k : Nat} {M : Mv} (h : MOk L k M) (l : List Int) : cptI (sortI (gat M pOut l)) = outL L M l := by
  refine cpt_sort (onL_sorted _ _) fun x => ?_
  rw [gat_mem, outL_mem h]
  constructor
  · rintro ⟨i, hi, ⟨m1, m2⟩, hm, e⟩
    unfold pOut at e
    split at e
    · rename_i q
      simp only [Option.some.injEq] at e q
      subst e
      exact ⟨q, i, m2, hi, hm⟩
    · cases e
  · rintro ⟨h0, i, y, hi, hm⟩
    exact ⟨i, hi, _, hm, by unfold pOut; rw [if_pos h0]⟩
set_option maxRecDepth 20000 in
set_option maxHeartbeats 16000000 in
theorem c_EStep {L k : Nat} {M : Mv} (h : MOk L k M) (hk : k ≤ 2000) (st : Nat) (F : List Bool) (f : Bool) (l : List Int) (hl : l.length ≤ 500) (hR : ∀ s, (M.getD s []).length ≤ 1000) (a : Int) :
    Contract Try.prog 14 [nfaD L st F M, .sl f (ints l), i64 a] (.sl false (ints (stepL M l a))) [] := by
  refine contract_of_awp (rs := [6]) Try.func14 rfl Try.ntmps14 (by simp) rfl fun E => ?_
  have hkl := h.len
  have hgl : ∀ i, (gat M (pStep a) (l.take i)).length ≤ 500 * 1000 := fun i => by
    have := gat_bound (p := (pStep a)) hR (l.take i)
    have h1 : (l.take i).length ≤ 500 := by rw [List.length_take]; omega
    have h2 : (l.take i).length * 1000 ≤ 500 * 1000 := Nat.mul_le_mul h1 (Nat.le_refl _)
    omega
  ((repeat (first | refine awp_seq ?_ | refine awp_block ?_)); ((first | refine awp_skip ?_ | refine awp_exit ?_ | refine awp_reg ttok ?_ | (refine awp_draw ttok ?dr_calm ?_; (case dr_calm => decide +kernel)) | refine awp_condM ?_); simp (maxSteps := 4000000) only [↓reduceIte, Nat.reduceLT, Nat.reduceEqDiff, reduceCtorEq, Nat.reduceAdd, Nat.reduceMul, Int.reduceLE, Int.reduceLT, Int.reduceToNat, Nat.reduceLeDiff, Nat.reduceSub, Int.reduceEq, Nat.reduceBEq, List.replicate, List.set, evB, tyA, nfaD]; (repeat (with_reducible refine And.intro ?_ ?_; exact sdX)); (with_reducible first | refine awp_id ?_ | refine id_call ?_ | refine id_and ?_ | refine id_ex ?_ | refine id_all ?_ | refine id_nat ?_ | refine id_le ?_)))
  ((repeat (first | refine awp_seq ?_ | refine awp_block ?_)); ((first | refine awp_skip ?_ | refine awp_exit ?_ | refine awp_reg ttok ?_ | (refine awp_draw ttok ?dr_calm ?_; (case dr_calm => decide +kernel)) | refine awp_condM ?_); simp (maxSteps := 4000000) only [↓reduceIte, Nat.reduceLT, Nat.reduceEqDiff, reduceCtorEq, Nat.reduceAdd, Nat.reduceMul, Int.reduceLE, Int.reduceLT, Int.reduceToNat, Nat.reduceLeDiff, Nat.reduceSub, Int.reduceEq, Nat.reduceBEq, List.replicate, List.set, evB, tyA]; (repeat (with_reducible refine And.intro ?_ ?_; exact sdX)); (with_reducible first | refine awp_id ?_ | refine id_call ?_ | refine id_and ?_ | refine id_ex ?_ | refine id_all ?_ | refine id_nat ?_ | refine id_le ?_)))
  refine awp_own_nil 7 90000 1 evX (by decide) ?_
  (repeat (first | refine awp_seq ?_ | refine awp_block ?_ | ((first | refine awp_skip ?_ | refine awp_exit ?_ | refine awp_reg ttok ?_ | (refine awp_draw ttok ?dr_calm ?_; (case dr_calm => decide +kernel)) | refine awp_condM ?_); simp (maxSteps := 4000000) only [↓reduceIte, Nat.reduceLT, Nat.reduceEqDiff, reduceCtorEq, Nat.reduceAdd, Nat.reduceMul, Int.reduceLE, Int.reduceLT, Int.reduceToNat, Nat.reduceLeDiff, Nat.reduceSub, Int.reduceEq, Nat.reduceBEq, List.replicate, List.set, evB, tyA, St.toOwn]; (repeat (with_reducible refine And.intro ?_ ?_; exact sdX)); (with_reducible first | refine awp_id ?_ | refine id_call ?_ | refine id_and ?_ | refine id_ex ?_ | refine id_all ?_ | refine id_nat ?_ | refine id_le ?_))))
  refine awp_loop (X := Nat) (fun i => mkS 52 [(2, i64 a), (3, .ptr 1000 0 0), (7, .own 90000 0 (gat M (pStep a) (l.take i)).length), (12, .sl f (ints l)), (13, i64 l.length), (14, i64 i)]
      [(1000, { sz := 4, rows := [[i64 L, i64 st, .sl false (bos F), .sl false (mmv M)]], flat := false }), (90000, { sz := 1, rows := ints (gat M (pStep a) (l.take i)) })]) (fun i => i ≤ l.length) (fun i => l.length - i) 0 (Nat.zero_le _) (mkS_le rfl ?_ ?_) ?_
  · simp (maxSteps := 4000000) only [↓reduceIte, Nat.reduceLT, Nat.reduceEqDiff, reduceCtorEq, Nat.reduceAdd, Nat.reduceMul, Int.reduceLE, Int.reduceLT, Int.reduceToNat, Nat.reduceLeDiff, Nat.reduceSub, Int.reduceEq, Nat.reduceBEq, List.replicate, List.set, evB, gat, List.flatMap_nil]
    try rfl
  · simp (maxSteps := 4000000) only [↓reduceIte, Nat.reduceLT, Nat.reduceEqDiff, reduceCtorEq, Nat.reduceAdd, Nat.reduceMul, Int.reduceLE, Int.reduceLT, Int.reduceToNat, Nat.reduceLeDiff, Nat.reduceSub, Int.reduceEq, Nat.reduceBEq, List.replicate, List.set, evB, gat, List.flatMap_nil, ints]
    try rfl
  · intro i hi
    have hgi := hgl i
    by_cases hlt : i < l.length
    · have d1 : decide ((i : Int) < (l.length : Int)) = true := by simpa using hlt
      have hwi : IntKind.i64.wrap ((i : Int) + 1) = ((i + 1 : Nat) : Int) := i64_in (by omega) (by omega)
      have hgw := ints_get hlt
      have hs := gat_succ M (pStep a) hlt
      have hg1 : gat1 M (pStep a) (l.getD i 0) = if 0 ≤ l.getD i 0 ∧ l.getD i 0 < (M.length : Int) then (M.getD (l.getD i 0).toNat []).filterMap (pStep a) else [] := rfl
      generalize l.getD i 0 = z at *
      by_cases hz0 : z < 0
      · have e1 : decide (z < 0) = true := by simpa using hz0
        rw [hg1, if_neg (by omega), List.append_nil] at hs
        (repeat (first | refine awp_seq ?_ | refine awp_block ?_ | ((first | refine awp_skip ?_ | refine awp_exit ?_ | refine awp_reg ttok ?_ | (refine awp_draw ttok ?dr_calm ?_; (case dr_calm => decide +kernel)) | refine awp_condM ?_); simp (maxSteps := 4000000) only [↓reduceIte, Nat.reduceLT, Nat.reduceEqDiff, reduceCtorEq, Nat.reduceAdd, Nat.reduceMul, Int.reduceLE, Int.reduceLT, Int.reduceToNat, Nat.reduceLeDiff, Nat.reduceSub, Int.reduceEq, Nat.reduceBEq, List.replicate, List.set, evB, tyA, d1, hgw, e1, hwi]; (repeat (with_reducible refine And.intro ?_ ?_; exact sdX)); (with_reducible first | refine awp_id ?_ | refine id_call ?_ | refine id_and ?_ | refine id_ex ?_ | refine id_all ?_ | refine id_nat ?_ | refine id_le ?_))))
        refine ⟨i + 1, by omega, by omega, mkS_le rfl ?_ ?_⟩
        · simp (maxSteps := 4000000) only [↓reduceIte, Nat.reduceLT, Nat.reduceEqDiff, reduceCtorEq, Nat.reduceAdd, Nat.reduceMul, Int.reduceLE, Int.reduceLT, Int.reduceToNat, Nat.reduceLeDiff, Nat.reduceSub, Int.reduceEq, Nat.reduceBEq, List.replicate, List.set, evB, hs]
        · simp (maxSteps := 4000000) only [↓reduceIte, Nat.reduceLT, Nat.reduceEqDiff, reduceCtorEq, Nat.reduceAdd, Nat.reduceMul, Int.reduceLE, Int.reduceLT, Int.reduceToNat, Nat.reduceLeDiff, Nat.reduceSub, Int.reduceEq, Nat.reduceBEq, List.replicate, List.set, evB, hs]
      · have e1 : decide (z < 0) = false := by simpa using hz0
        by_cases hzk : (k : Int) ≤ z
        · have e2 : decide (z ≥ (k : Int)) = true := by simpa using hzk
          rw [hg1, if_neg (by omega), List.append_nil] at hs
          (repeat (first | refine awp_seq ?_ | refine awp_block ?_ | ((first | refine awp_skip ?_ | refine awp_exit ?_ | refine awp_reg ttok ?_ | (refine awp_draw ttok ?dr_calm ?_; (case dr_calm => decide +kernel)) | refine awp_condM ?_); simp (maxSteps := 4000000) only [↓reduceIte, Nat.reduceLT, Nat.reduceEqDiff, reduceCtorEq, Nat.reduceAdd, Nat.reduceMul, Int.reduceLE, Int.reduceLT, Int.reduceToNat, Nat.reduceLeDiff, Nat.reduceSub, Int.reduceEq, Nat.reduceBEq, List.replicate, List.set, evB, tyA, d1, hgw, e1, mmv_len, hkl, e2, hwi]; (repeat (with_reducible refine And.intro ?_ ?_; exact sdX)); (with_reducible first | refine awp_id ?_ | refine id_call ?_ | refine id_and ?_ | refine id_ex ?_ | refine id_all ?_ | refine id_nat ?_ | refine id_le ?_))))
          refine ⟨i + 1, by omega, by omega, mkS_le rfl ?_ ?_⟩
          · simp (maxSteps := 4000000) only [↓reduceIte, Nat.reduceLT, Nat.reduceEqDiff, reduceCtorEq, Nat.reduceAdd, Nat.reduceMul, Int.reduceLE, Int.reduceLT, Int.reduceToNat, Nat.reduceLeDiff, Nat.reduceSub, Int.reduceEq, Nat.reduceBEq, List.replicate, List.set, evB, hs]
          · simp (maxSteps := 4000000) only [↓reduceIte, Nat.reduceLT, Nat.reduceEqDiff, reduceCtorEq, Nat.reduceAdd, Nat.reduceMul, Int.reduceLE, Int.reduceLT, Int.reduceToNat, Nat.reduceLeDiff, Nat.reduceSub, Int.reduceEq, Nat.reduceBEq, List.replicate, List.set, evB, hs]
        · have e2 : decide (z ≥ (k : Int)) = false := by simp; omega
          obtain ⟨s, rfl⟩ := Int.eq_ofNat_of_zero_le (show 0 ≤ z by omega)
          have hsk : s < k := by omega
          rw [hg1, if_pos (by omega), Int.toNat_natCast] at hs
          have hgm := mmv_get (M := M) (i := s) (by omega)
          have hrl := hR s
          have hrb := h.get s
          (repeat (first | refine awp_seq ?_ | refine awp_block ?_ | ((first | refine awp_skip ?_ | refine awp_exit ?_ | refine awp_reg ttok ?_ | (refine awp_draw ttok ?dr_calm ?_; (case dr_calm => decide +kernel)) | refine awp_condM ?_); simp (maxSteps := 4000000) only [↓reduceIte, Nat.reduceLT, Nat.reduceEqDiff, reduceCtorEq, Nat.reduceAdd, Nat.reduceMul, Int.reduceLE, Int.reduceLT, Int.reduceToNat, Nat.reduceLeDiff, Nat.reduceSub, Int.reduceEq, Nat.reduceBEq, List.replicate, List.set, evB, tyA, d1, hgw, e1, mmv_len, hkl, e2, hgm, mvs_len]; (repeat (with_reducible refine And.intro ?_ ?_; exact sdX)); (with_reducible first | refine awp_id ?_ | refine id_call ?_ | refine id_and ?_ | refine id_ex ?_ | refine id_all ?_ | refine id_nat ?_ | refine id_le ?_))))
          generalize M.getD s [] = r at *
          refine awp_loop (X := Nat) (fun j => mkS 52 [(2, i64 a), (3, .ptr 1000 0 0), (7, .own 90000 0 (gat M (pStep a) (l.take i) ++ (r.take j).filterMap (pStep a)).length), (12, .sl f (ints l)), (13, i64 l.length), (14, i64 i), (31, .sl false (mvs r)), (32, i64 r.length), (33, i64 j)]
              [(1000, { sz := 4, rows := [[i64 L, i64 st, .sl false (bos F), .sl false (mmv M)]], flat := false }), (90000, { sz := 1, rows := ints (gat M (pStep a) (l.take i) ++ (r.take j).filterMap (pStep a)) })]) (fun j => j ≤ r.length) (fun j => r.length - j) 0 (Nat.zero_le _) (mkS_le rfl ?_ ?_) ?_
          · simp (maxSteps := 4000000) only [↓reduceIte, Nat.reduceLT, Nat.reduceEqDiff, reduceCtorEq, Nat.reduceAdd, Nat.reduceMul, Int.reduceLE, Int.reduceLT, Int.reduceToNat, Nat.reduceLeDiff, Nat.reduceSub, Int.reduceEq, Nat.reduceBEq, List.replicate, List.set, evB, List.filterMap_nil, List.append_nil]
            try rfl
          · simp (maxSteps := 4000000) only [↓reduceIte, Nat.reduceLT, Nat.reduceEqDiff, reduceCtorEq, Nat.reduceAdd, Nat.reduceMul, Int.reduceLE, Int.reduceLT, Int.reduceToNat, Nat.reduceLeDiff, Nat.reduceSub, Int.reduceEq, Nat.reduceBEq, List.replicate, List.set, evB, List.filterMap_nil, List.append_nil]
            try rfl
          · intro j hj
            have hol : (gat M (pStep a) (l.take i) ++ (r.take j).filterMap (pStep a)).length ≤ 501 * 1000 := by
              have := List.length_filterMap_le (pStep a) (r.take j)
              rw [List.length_take] at this
              rw [List.length_append]; omega
            by_cases hjlt : j < r.length
            · have d2 : decide ((j : Int) < (r.length : Int)) = true := by simpa using hjlt
              have hwj : IntKind.i64.wrap ((j : Int) + 1) = ((j + 1 : Nat) : Int) := i64_in (by omega) (by omega)
              have hgr := mvs_get hjlt
              have hfs := fm_succ (pStep a) hjlt
              generalize r.getD j (0, 0) = m at *
              have hto : gat M (pStep a) (l.take i) ++ (r.take (j + 1)).filterMap (pStep a) = (gat M (pStep a) (l.take i) ++ (r.take j).filterMap (pStep a)) ++ (match (pStep a) m with | some x => [x] | none => []) := by rw [hfs, List.append_assoc]
              generalize gat M (pStep a) (l.take i) ++ (r.take j).filterMap (pStep a) = o at *
              have hot : List.take o.length o = o := List.take_of_length_le (Nat.le_refl _)
              have hr2 : ∀ z : Int, (∀ row ∈ [[D.v (Value.int IntKind.i64 z)]], row.length = 1) = True := fun z => by simp
              by_cases hc : m.1 = a
              · have e3 : (m.1 == a) = true := by simpa using hc
                have hpp : (pStep a) m = some m.2 := by unfold pStep; rw [if_pos hc]
                rw [hpp] at hto
                simp only at hto
                (repeat (first | refine awp_seq ?_ | refine awp_block ?_ | ((first | refine awp_skip ?_ | refine awp_exit ?_ | refine awp_reg ttok ?_ | (refine awp_draw ttok ?dr_calm ?_; (case dr_calm => decide +kernel)) | refine awp_condM ?_); simp (maxSteps := 4000000) only [↓reduceIte, Nat.reduceLT, Nat.reduceEqDiff, reduceCtorEq, Nat.reduceAdd, Nat.reduceMul, Int.reduceLE, Int.reduceLT, Int.reduceToNat, Nat.reduceLeDiff, Nat.reduceSub, Int.reduceEq, Nat.reduceBEq, List.replicate, List.set, evB, tyA, d2, hgr, mvs_len, e3, hwj, ints_len, ints_take, hot, ints_one, ints_app, hr2]; (repeat (with_reducible refine And.intro ?_ ?_; exact sdX)); (with_reducible first | refine awp_id ?_ | refine id_call ?_ | refine id_and ?_ | refine id_ex ?_ | refine id_all ?_ | refine id_nat ?_ | refine id_le ?_))))
                refine ⟨j + 1, by omega, by omega, mkS_le rfl ?_ ?_⟩
                · simp (maxSteps := 4000000) only [↓reduceIte, Nat.reduceLT, Nat.reduceEqDiff, reduceCtorEq, Nat.reduceAdd, Nat.reduceMul, Int.reduceLE, Int.reduceLT, Int.reduceToNat, Nat.reduceLeDiff, Nat.reduceSub, Int.reduceEq, Nat.reduceBEq, List.replicate, List.set, evB, hto, List.length_append]
                · simp (maxSteps := 4000000) only [↓reduceIte, Nat.reduceLT, Nat.reduceEqDiff, reduceCtorEq, Nat.reduceAdd, Nat.reduceMul, Int.reduceLE, Int.reduceLT, Int.reduceToNat, Nat.reduceLeDiff, Nat.reduceSub, Int.reduceEq, Nat.reduceBEq, List.replicate, List.set, evB, hto, ints_one, ints_app, ints_take, hot]
              · have e3 : (m.1 == a) = false := by simpa using hc
                have hpp : (pStep a) m = none := by unfold pStep; rw [if_neg hc]
                rw [hpp] at hto
                simp only [List.append_nil] at hto
                (repeat (first | refine awp_seq ?_ | refine awp_block ?_ | ((first | refine awp_skip ?_ | refine awp_exit ?_ | refine awp_reg ttok ?_ | (refine awp_draw ttok ?dr_calm ?_; (case dr_calm => decide +kernel)) | refine awp_condM ?_); simp (maxSteps := 4000000) only [↓reduceIte, Nat.reduceLT, Nat.reduceEqDiff, reduceCtorEq, Nat.reduceAdd, Nat.reduceMul, Int.reduceLE, Int.reduceLT, Int.reduceToNat, Nat.reduceLeDiff, Nat.reduceSub, Int.reduceEq, Nat.reduceBEq, List.replicate, List.set, evB, tyA, d2, hgr, mvs_len, e3, hwj]; (repeat (with_reducible refine And.intro ?_ ?_; exact sdX)); (with_reducible first | refine awp_id ?_ | refine id_call ?_ | refine id_and ?_ | refine id_ex ?_ | refine id_all ?_ | refine id_nat ?_ | refine id_le ?_))))
                refine ⟨j + 1, by omega, by omega, mkS_le rfl ?_ ?_⟩
                · simp (maxSteps := 4000000) only [↓reduceIte, Nat.reduceLT, Nat.reduceEqDiff, reduceCtorEq, Nat.reduceAdd, Nat.reduceMul, Int.reduceLE, Int.reduceLT, Int.reduceToNat, Nat.reduceLeDiff, Nat.reduceSub, Int.reduceEq, Nat.reduceBEq, List.replicate, List.set, evB, hto]
                · simp (maxSteps := 4000000) only [↓reduceIte, Nat.reduceLT, Nat.reduceEqDiff, reduceCtorEq, Nat.reduceAdd, Nat.reduceMul, Int.reduceLE, Int.reduceLT, Int.reduceToNat, Nat.reduceLeDiff, Nat.reduceSub, Int.reduceEq, Nat.reduceBEq, List.replicate, List.set, evB, hto]
            · have d2 : decide ((j : Int) < (r.length : Int)) = false := by simpa using hjlt
              have hjt : r.take j = r := List.take_of_length_le (by omega)
              (repeat (first | refine awp_seq ?_ | refine awp_block ?_ | ((first | refine awp_skip ?_ | refine awp_exit ?_ | refine awp_reg ttok ?_ | (refine awp_draw ttok ?dr_calm ?_; (case dr_calm => decide +kernel)) | refine awp_condM ?_); simp (maxSteps := 4000000) only [↓reduceIte, Nat.reduceLT, Nat.reduceEqDiff, reduceCtorEq, Nat.reduceAdd, Nat.reduceMul, Int.reduceLE, Int.reduceLT, Int.reduceToNat, Nat.reduceLeDiff, Nat.reduceSub, Int.reduceEq, Nat.reduceBEq, List.replicate, List.set, evB, tyA, d2, hwi]; (repeat (with_reducible refine And.intro ?_ ?_; exact sdX)); (with_reducible first | refine awp_id ?_ | refine id_call ?_ | refine id_and ?_ | refine id_ex ?_ | refine id_all ?_ | refine id_nat ?_ | refine id_le ?_))))
              refine ⟨i + 1, by omega, by omega, mkS_le rfl ?_ ?_⟩
              · simp (maxSteps := 4000000) only [↓reduceIte, Nat.reduceLT, Nat.reduceEqDiff, reduceCtorEq, Nat.reduceAdd, Nat.reduceMul, Int.reduceLE, Int.reduceLT, Int.reduceToNat, Nat.reduceLeDiff, Nat.reduceSub, Int.reduceEq, Nat.reduceBEq, List.replicate, List.set, evB, hs, hjt]
              · simp (maxSteps := 4000000) only [↓reduceIte, Nat.reduceLT, Nat.reduceEqDiff, reduceCtorEq, Nat.reduceAdd, Nat.reduceMul, Int.reduceLE, Int.reduceLT, Int.reduceToNat, Nat.reduceLeDiff, Nat.reduceSub, Int.reduceEq, Nat.reduceBEq, List.replicate, List.set, evB, hs, hjt]
    · have d1 : decide ((i : Int) < (l.length : Int)) = false := by simpa using hlt
      have hlt2 : l.take i = l := List.take_of_length_le (by omega)
      rw [hlt2] at hgi ⊢
      have hres := step_is h l a
      generalize gat M (pStep a) l = o at *
      (repeat (first | refine awp_seq ?_ | refine awp_block ?_ | ((first | refine awp_skip ?_ | refine awp_exit ?_ | refine awp_reg ttok ?_ | (refine awp_draw ttok ?dr_calm ?_; (case dr_calm => decide +kernel)) | refine awp_condM ?_); simp (maxSteps := 4000000) only [↓reduceIte, Nat.reduceLT, Nat.reduceEqDiff, reduceCtorEq, Nat.reduceAdd, Nat.reduceMul, Int.reduceLE, Int.reduceLT, Int.reduceToNat, Nat.reduceLeDiff, Nat.reduceSub, Int.reduceEq, Nat.reduceBEq, List.replicate, List.set, evB, tyA, d1]; (repeat (with_reducible refine And.intro ?_ ?_; exact sdX)); (with_reducible first | refine awp_id ?_ | refine id_call ?_ | refine id_and ?_ | refine id_ex ?_ | refine id_all ?_ | refine id_nat ?_ | refine id_le ?_))))
      have hsl := sortI_len o
      have hcS := c_SortI o (by omega)
      refine callVC_M [90000] fnok28 hcS (by simp (maxSteps := 4000000) only [↓reduceIte, Nat.reduceLT, Nat.reduceEqDiff, reduceCtorEq, Nat.reduceAdd, Nat.reduceMul, Int.reduceLE, Int.reduceLT, Int.reduceToNat, Nat.reduceLeDiff, Nat.reduceSub, Int.reduceEq, Nat.reduceBEq, List.replicate, List.set, evB]; rfl) evX ?_
      simp (maxSteps := 4000000) only [↓reduceIte, Nat.reduceLT, Nat.reduceEqDiff, reduceCtorEq, Nat.reduceAdd, Nat.reduceMul, Int.reduceLE, Int.reduceLT, Int.reduceToNat, Nat.reduceLeDiff, Nat.reduceSub, Int.reduceEq, Nat.reduceBEq, List.replicate, List.set, evB, tyA, ints_len]
      (repeat (with_reducible refine And.intro ?_ ?_; exact sdX))
      (repeat (first | refine awp_seq ?_ | refine awp_block ?_ | ((first | refine awp_skip ?_ | refine awp_exit ?_ | refine awp_reg ttok ?_ | (refine awp_draw ttok ?dr_calm ?_; (case dr_calm => decide +kernel)) | refine awp_condM ?_); simp (maxSteps := 4000000) only [↓reduceIte, Nat.reduceLT, Nat.reduceEqDiff, reduceCtorEq, Nat.reduceAdd, Nat.reduceMul, Int.reduceLE, Int.reduceLT, Int.reduceToNat, Nat.reduceLeDiff, Nat.reduceSub, Int.reduceEq, Nat.reduceBEq, List.replicate, List.set, evB, tyA]; (repeat (with_reducible refine And.intro ?_ ?_; exact sdX)); (with_reducible first | refine awp_id ?_ | refine id_call ?_ | refine id_and ?_ | refine id_ex ?_ | refine id_all ?_ | refine id_nat ?_ | refine id_le ?_))))
      rw [← hsl]
      have hcC := c_CompactI (sortI o) (by omega)
      have hzl := cpzI_len (sortI o)
      have hcl := cptI_le (sortI o)
      have hct := cpzI_take (sortI o)
      refine callVC_M [90000] fnok29 hcC (by simp (maxSteps := 4000000) only [↓reduceIte, Nat.reduceLT, Nat.reduceEqDiff, reduceCtorEq, Nat.reduceAdd, Nat.reduceMul, Int.reduceLE, Int.reduceLT, Int.reduceToNat, Nat.reduceLeDiff, Nat.reduceSub, Int.reduceEq, Nat.reduceBEq, List.replicate, List.set, evB]; rfl) evX ?_
      simp (maxSteps := 4000000) only [↓reduceIte, Nat.reduceLT, Nat.reduceEqDiff, reduceCtorEq, Nat.reduceAdd, Nat.reduceMul, Int.reduceLE, Int.reduceLT, Int.reduceToNat, Nat.reduceLeDiff, Nat.reduceSub, Int.reduceEq, Nat.reduceBEq, List.replicate, List.set, evB, tyA, ints_len]
      (repeat (with_reducible refine And.intro ?_ ?_; exact sdX))
      (repeat (first | refine awp_seq ?_ | refine awp_block ?_ | ((first | refine awp_skip ?_ | refine awp_exit ?_ | refine awp_reg ttok ?_ | (refine awp_draw ttok ?dr_calm ?_; (case dr_calm => decide +kernel)) | refine awp_condM ?_); simp (maxSteps := 4000000) only [↓reduceIte, Nat.reduceLT, Nat.reduceEqDiff, reduceCtorEq, Nat.reduceAdd, Nat.reduceMul, Int.reduceLE, Int.reduceLT, Int.reduceToNat, Nat.reduceLeDiff, Nat.reduceSub, Int.reduceEq, Nat.reduceBEq, List.replicate, List.set, evB, tyA]; (repeat (with_reducible refine And.intro ?_ ?_; exact sdX)); (with_reducible first | refine awp_id ?_ | refine id_call ?_ | refine id_and ?_ | refine id_ex ?_ | refine id_all ?_ | refine id_nat ?_ | refine id_le ?_))))
      refine awp_pure 6 (d := .own 90000 0 (cptI (sortI o)).length) evX (by simp (maxSteps := 4000000) only [↓reduceIte, Nat.reduceLT, Nat.reduceEqDiff, reduceCtorEq, Nat.reduceAdd, Nat.reduceMul, Int.reduceLE, Int.reduceLT, Int.reduceToNat, Nat.reduceLeDiff, Nat.reduceSub, Int.reduceEq, Nat.reduceBEq, List.replicate, List.set, evB]; rfl) (by simp (maxSteps := 4000000) only [↓reduceIte, Nat.reduceLT, Nat.reduceEqDiff, reduceCtorEq, Nat.reduceAdd, Nat.reduceMul, Int.reduceLE, Int.reduceLT, Int.reduceToNat, Nat.reduceLeDiff, Nat.reduceSub, Int.reduceEq, Nat.reduceBEq, List.replicate, List.set, evB, ints_len, hzl]; omega) ?_
      rw [hres] at hct
      exact awp_ret (ends_plain (.inr rfl) rfl (by simp (maxSteps := 4000000) only [↓reduceIte, Nat.reduceLT, Nat.reduceEqDiff, reduceCtorEq, Nat.reduceAdd, Nat.reduceMul, Int.reduceLE, Int.reduceLT, Int.reduceToNat, Nat.reduceLeDiff, Nat.reduceSub, Int.reduceEq, Nat.reduceBEq, List.replicate, List.set, evB, ints_take, hres, hct]))
set_option maxRecDepth 20000 in
set_option maxHeartbeats 16000000 in
theorem c_EOut {L k : Nat} {M : Mv} (h : MOk L k M) (hk : k ≤ 2000) (st : Nat) (F : List Bool) (f : Bool) (l : List Int) (hl : l.length ≤ 500) (hR : ∀ s, (M.getD s []).length ≤ 1000) :
    Contract Try.prog 17 [nfaD L st F M, .sl f (ints l)] (.sl false (ints (outL L M l))) [] := by
  refine contract_of_awp (rs := [4]) Try.func17 rfl Try.ntmps17 (by simp) rfl fun E => ?_
  have hkl := h.len
  have hgl : ∀ i, (gat M pOut (l.take i)).length ≤ 500 * 1000 := fun i => by
    have := gat_bound (p := pOut) hR (l.take i)
    have h1 : (l.take i).length ≤ 500 := by rw [List.length_take]; omega
    have h2 : (l.take i).length * 1000 ≤ 500 * 1000 := Nat.mul_le_mul h1 (Nat.le_refl _)
    omega
  ((repeat (first | refine awp_seq ?_ | refine awp_block ?_)); ((first | refine awp_skip ?_ | refine awp_exit ?_ | refine awp_reg ttok ?_ | (refine awp_draw ttok ?dr_calm ?_; (case dr_calm => decide +kernel)) | refine awp_condM ?_); simp (maxSteps := 4000000) only [↓reduceIte, Nat.reduceLT, Nat.reduceEqDiff, reduceCtorEq, Nat.reduceAdd, Nat.reduceMul, Int.reduceLE, Int.reduceLT, Int.reduceToNat, Nat.reduceLeDiff, Nat.reduceSub, Int.reduceEq, Nat.reduceBEq, List.replicate, List.set, evB, tyA, nfaD]; (repeat (with_reducible refine And.intro ?_ ?_; exact sdX)); (with_reducible first | refine awp_id ?_ | refine id_call ?_ | refine id_and ?_ | refine id_ex ?_ | refine id_all ?_ | refine id_nat ?_ | refine id_le ?_)))
  ((repeat (first | refine awp_seq ?_ | refine awp_block ?_)); ((first | refine awp_skip ?_ | refine awp_exit ?_ | refine awp_reg ttok ?_ | (refine awp_draw ttok ?dr_calm ?_; (case dr_calm => decide +kernel)) | refine awp_condM ?_); simp (maxSteps := 4000000) only [↓reduceIte, Nat.reduceLT, Nat.reduceEqDiff, reduceCtorEq, Nat.reduceAdd, Nat.reduceMul, Int.reduceLE, Int.reduceLT, Int.reduceToNat, Nat.reduceLeDiff, Nat.reduceSub, Int.reduceEq, Nat.reduceBEq, List.replicate, List.set, evB, tyA]; (repeat (with_reducible refine And.intro ?_ ?_; exact sdX)); (with_reducible first | refine awp_id ?_ | refine id_call ?_ | refine id_and ?_ | refine id_ex ?_ | refine id_all ?_ | refine id_nat ?_ | refine id_le ?_)))
  refine awp_own_nil 5 90000 1 evX (by decide) ?_
  (repeat (first | refine awp_seq ?_ | refine awp_block ?_ | ((first | refine awp_skip ?_ | refine awp_exit ?_ | refine awp_reg ttok ?_ | (refine awp_draw ttok ?dr_calm ?_; (case dr_calm => decide +kernel)) | refine awp_condM ?_); simp (maxSteps := 4000000) only [↓reduceIte, Nat.reduceLT, Nat.reduceEqDiff, reduceCtorEq, Nat.reduceAdd, Nat.reduceMul, Int.reduceLE, Int.reduceLT, Int.reduceToNat, Nat.reduceLeDiff, Nat.reduceSub, Int.reduceEq, Nat.reduceBEq, List.replicate, List.set, evB, tyA, St.toOwn]; (repeat (with_reducible refine And.intro ?_ ?_; exact sdX)); (with_reducible first | refine awp_id ?_ | refine id_call ?_ | refine id_and ?_ | refine id_ex ?_ | refine id_all ?_ | refine id_nat ?_ | refine id_le ?_))))
  refine awp_loop (X := Nat) (fun i => mkS 49 [(2, .ptr 1000 0 0), (5, .own 90000 0 (gat M pOut (l.take i)).length), (10, .sl f (ints l)), (11, i64 l.length), (12, i64 i)]
      [(1000, { sz := 4, rows := [[i64 L, i64 st, .sl false (bos F), .sl false (mmv M)]], flat := false }), (90000, { sz := 1, rows := ints (gat M pOut (l.take i)) })]) (fun i => i ≤ l.length) (fun i => l.length - i) 0 (Nat.zero_le _) (mkS_le rfl ?_ ?_) ?_
  · simp (maxSteps := 4000000) only [↓reduceIte, Nat.reduceLT, Nat.reduceEqDiff, reduceCtorEq, Nat.reduceAdd, Nat.reduceMul, Int.reduceLE, Int.reduceLT, Int.reduceToNat, Nat.reduceLeDiff, Nat.reduceSub, Int.reduceEq, Nat.reduceBEq, List.replicate, List.set, evB, gat, List.flatMap_nil]
    try rfl
  · simp (maxSteps := 4000000) only [↓reduceIte, Nat.reduceLT, Nat.reduceEqDiff, reduceCtorEq, Nat.reduceAdd, Nat.reduceMul, Int.reduceLE, Int.reduceLT, Int.reduceToNat, Nat.reduceLeDiff, Nat.reduceSub, Int.reduceEq, Nat.reduceBEq, List.replicate, List.set, evB, gat, List.flatMap_nil, ints]
    try rfl
  · intro i hi
    have hgi := hgl i
    by_cases hlt : i < l.length
    · have d1 : decide ((i : Int) < (l.length : Int)) = true := by simpa using hlt
      have hwi : IntKind.i64.wrap ((i : Int) + 1) = ((i + 1 : Nat) : Int) := i64_in (by omega) (by omega)
      have hgw := ints_get hlt
      have hs := gat_succ M pOut hlt
      have hg1 : gat1 M pOut (l.getD i 0) = if 0 ≤ l.getD i 0 ∧ l.getD i 0 < (M.length : Int) then (M.getD (l.getD i 0).toNat []).filterMap pOut else [] := rfl
      generalize l.getD i 0 = z at *
      by_cases hz0 : z < 0
      · have e1 : decide (z < 0) = true := by simpa using hz0
        rw [hg1, if_neg (by omega), List.append_nil] at hs
        (repeat (first | refine awp_seq ?_ | refine awp_block ?_ | ((first | refine awp_skip ?_ | refine awp_exit ?_ | refine awp_reg ttok ?_ | (refine awp_draw ttok ?dr_calm ?_; (case dr_calm => decide +kernel)) | refine awp_condM ?_); simp (maxSteps := 4000000) only [↓reduceIte, Nat.reduceLT, Nat.reduceEqDiff, reduceCtorEq, Nat.reduceAdd, Nat.reduceMul, Int.reduceLE, Int.reduceLT, Int.reduceToNat, Nat.reduceLeDiff, Nat.reduceSub, Int.reduceEq, Nat.reduceBEq, List.replicate, List.set, evB, tyA, d1, hgw, e1, hwi]; (repeat (with_reducible refine And.intro ?_ ?_; exact sdX)); (with_reducible first | refine awp_id ?_ | refine id_call ?_ | refine id_and ?_ | refine id_ex ?_ | refine id_all ?_ | refine id_nat ?_ | refine id_le ?_))))
        refine ⟨i + 1, by omega, by omega, mkS_le rfl ?_ ?_⟩
        · simp (maxSteps := 4000000) only [↓reduceIte, Nat.reduceLT, Nat.reduceEqDiff, reduceCtorEq, Nat.reduceAdd, Nat.reduceMul, Int.reduceLE, Int.reduceLT, Int.reduceToNat, Nat.reduceLeDiff, Nat.reduceSub, Int.reduceEq, Nat.reduceBEq, List.replicate, List.set, evB, hs]
        · simp (maxSteps := 4000000) only [↓reduceIte, Nat.reduceLT, Nat.reduceEqDiff, reduceCtorEq, Nat.reduceAdd, Nat.reduceMul, Int.reduceLE, Int.reduceLT, Int.reduceToNat, Nat.reduceLeDiff, Nat.reduceSub, Int.reduceEq, Nat.reduceBEq, List.replicate, List.set, evB, hs]
      · have e1 : decide (z < 0) = false := by simpa using hz0
        by_cases hzk : (k : Int) ≤ z
        · have e2 : decide (z ≥ (k : Int)) = true := by simpa using hzk
          rw [hg1, if_neg (by omega), List.append_nil] at hs
          (repeat (first | refine awp_seq ?_ | refine awp_block ?_ | ((first | refine awp_skip ?_ | refine awp_exit ?_ | refine awp_reg ttok ?_ | (refine awp_draw ttok ?dr_calm ?_; (case dr_calm => decide +kernel)) | refine awp_condM ?_); simp (maxSteps := 4000000) only [↓reduceIte, Nat.reduceLT, Nat.reduceEqDiff, reduceCtorEq, Nat.reduceAdd, Nat.reduceMul, Int.reduceLE, Int.reduceLT, Int.reduceToNat, Nat.reduceLeDiff, Nat.reduceSub, Int.reduceEq, Nat.reduceBEq, List.replicate, List.set, evB, tyA, d1, hgw, e1, mmv_len, hkl, e2, hwi]; (repeat (with_reducible refine And.intro ?_ ?_; exact sdX)); (with_reducible first | refine awp_id ?_ | refine id_call ?_ | refine id_and ?_ | refine id_ex ?_ | refine id_all ?_ | refine id_nat ?_ | refine id_le ?_))))
          refine ⟨i + 1, by omega, by omega, mkS_le rfl ?_ ?_⟩
          · simp (maxSteps := 4000000) only [↓reduceIte, Nat.reduceLT, Nat.reduceEqDiff, reduceCtorEq, Nat.reduceAdd, Nat.reduceMul, Int.reduceLE, Int.reduceLT, Int.reduceToNat, Nat.reduceLeDiff, Nat.reduceSub, Int.reduceEq, Nat.reduceBEq, List.replicate, List.set, evB, hs]
          · simp (maxSteps := 4000000) only [↓reduceIte, Nat.reduceLT, Nat.reduceEqDiff, reduceCtorEq, Nat.reduceAdd, Nat.reduceMul, Int.reduceLE, Int.reduceLT, Int.reduceToNat, Nat.reduceLeDiff, Nat.reduceSub, Int.reduceEq, Nat.reduceBEq, List.replicate, List.set, evB, hs]
        · have e2 : decide (z ≥ (k : Int)) = false := by simp; omega
          obtain ⟨s, rfl⟩ := Int.eq_ofNat_of_zero_le (show 0 ≤ z by omega)
          have hsk : s < k := by omega
          rw [hg1, if_pos (by omega), Int.toNat_natCast] at hs
          have hgm := mmv_get (M := M) (i := s) (by omega)
          have hrl := hR s
          have hrb := h.get s
          (repeat (first | refine awp_seq ?_ | refine awp_block ?_ | ((first | refine awp_skip ?_ | refine awp_exit ?_ | refine awp_reg ttok ?_ | (refine awp_draw ttok ?dr_calm ?_; (case dr_calm => decide +kernel)) | refine awp_condM ?_); simp (maxSteps := 4000000) only [↓reduceIte, Nat.reduceLT, Nat.reduceEqDiff, reduceCtorEq, Nat.reduceAdd, Nat.reduceMul, Int.reduceLE, Int.reduceLT, Int.reduceToNat, Nat.reduceLeDiff, Nat.reduceSub, Int.reduceEq, Nat.reduceBEq, List.replicate, List.set, evB, tyA, d1, hgw, e1, mmv_len, hkl, e2, hgm, mvs_len]; (repeat (with_reducible refine And.intro ?_ ?_; exact sdX)); (with_reducible first | refine awp_id ?_ | refine id_call ?_ | refine id_and ?_ | refine id_ex ?_ | refine id_all ?_ | refine id_nat ?_ | refine id_le ?_))))
          generalize M.getD s [] = r at *
          refine awp_loop (X := Nat) (fun j => mkS 49 [(2, .ptr 1000 0 0), (5, .own 90000 0 (gat M pOut (l.take i) ++ (r.take j).filterMap pOut).length), (10, .sl f (ints l)), (11, i64 l.length), (12, i64 i), (29, .sl false (mvs r)), (30, i64 r.length), (31, i64 j)]
              [(1000, { sz := 4, rows := [[i64 L, i64 st, .sl false (bos F), .sl false (mmv M)]], flat := false }), (90000, { sz := 1, rows := ints (gat M pOut (l.take i) ++ (r.take j).filterMap pOut) })]) (fun j => j ≤ r.length) (fun j => r.length - j) 0 (Nat.zero_le _) (mkS_le rfl ?_ ?_) ?_
          · simp (maxSteps := 4000000) only [↓reduceIte, Nat.reduceLT, Nat.reduceEqDiff, reduceCtorEq, Nat.reduceAdd, Nat.reduceMul, Int.reduceLE, Int.reduceLT, Int.reduceToNat, Nat.reduceLeDiff, Nat.reduceSub, Int.reduceEq, Nat.reduceBEq, List.replicate, List.set, evB, List.filterMap_nil, List.append_nil]
            try rfl
          · simp (maxSteps := 4000000) only [↓reduceIte, Nat.reduceLT, Nat.reduceEqDiff, reduceCtorEq, Nat.reduceAdd, Nat.reduceMul, Int.reduceLE, Int.reduceLT, Int.reduceToNat, Nat.reduceLeDiff, Nat.reduceSub, Int.reduceEq, Nat.reduceBEq, List.replicate, List.set, evB, List.filterMap_nil, List.append_nil]
            try rfl
          · intro j hj
            have hol : (gat M pOut (l.take i) ++ (r.take j).filterMap pOut).length ≤ 501 * 1000 := by
              have := List.length_filterMap_le pOut (r.take j)
              rw [List.length_take] at this
              rw [List.length_append]; omega
            by_cases hjlt : j < r.length
            · have d2 : decide ((j : Int) < (r.length : Int)) = true := by simpa using hjlt
              have hwj : IntKind.i64.wrap ((j : Int) + 1) = ((j + 1 : Nat) : Int) := i64_in (by omega) (by omega)
              have hgr := mvs_get hjlt
              have hfs := fm_succ pOut hjlt
              generalize r.getD j (0, 0) = m at *
              have hto : gat M pOut (l.take i) ++ (r.take (j + 1)).filterMap pOut = (gat M pOut (l.take i) ++ (r.take j).filterMap pOut) ++ (match pOut m with | some x => [x] | none => []) := by rw [hfs, List.append_assoc]
              generalize gat M pOut (l.take i) ++ (r.take j).filterMap pOut = o at *
              have hot : List.take o.length o = o := List.take_of_length_le (Nat.le_refl _)
              have hr2 : ∀ z : Int, (∀ row ∈ [[D.v (Value.int IntKind.i64 z)]], row.length = 1) = True := fun z => by simp
              by_cases hc : 0 ≤ m.1
              · have e3 : (decide (m.1 ≥ 0)) = true := by simpa using hc
                have hpp : pOut m = some m.1 := by unfold pOut; rw [if_pos hc]
                rw [hpp] at hto
                simp only at hto
                (repeat (first | refine awp_seq ?_ | refine awp_block ?_ | ((first | refine awp_skip ?_ | refine awp_exit ?_ | refine awp_reg ttok ?_ | (refine awp_draw ttok ?dr_calm ?_; (case dr_calm => decide +kernel)) | refine awp_condM ?_); simp (maxSteps := 4000000) only [↓reduceIte, Nat.reduceLT, Nat.reduceEqDiff, reduceCtorEq, Nat.reduceAdd, Nat.reduceMul, Int.reduceLE, Int.reduceLT, Int.reduceToNat, Nat.reduceLeDiff, Nat.reduceSub, Int.reduceEq, Nat.reduceBEq, List.replicate, List.set, evB, tyA, d2, hgr, mvs_len, e3, hwj, ints_len, ints_take, hot, ints_one, ints_app, hr2]; (repeat (with_reducible refine And.intro ?_ ?_; exact sdX)); (with_reducible first | refine awp_id ?_ | refine id_call ?_ | refine id_and ?_ | refine id_ex ?_ | refine id_all ?_ | refine id_nat ?_ | refine id_le ?_))))
                refine ⟨j + 1, by omega, by omega, mkS_le rfl ?_ ?_⟩
                · simp (maxSteps := 4000000) only [↓reduceIte, Nat.reduceLT, Nat.reduceEqDiff, reduceCtorEq, Nat.reduceAdd, Nat.reduceMul, Int.reduceLE, Int.reduceLT, Int.reduceToNat, Nat.reduceLeDiff, Nat.reduceSub, Int.reduceEq, Nat.reduceBEq, List.replicate, List.set, evB, hto, List.length_append]
                · simp (maxSteps := 4000000) only [↓reduceIte, Nat.reduceLT, Nat.reduceEqDiff, reduceCtorEq, Nat.reduceAdd, Nat.reduceMul, Int.reduceLE, Int.reduceLT, Int.reduceToNat, Nat.reduceLeDiff, Nat.reduceSub, Int.reduceEq, Nat.reduceBEq, List.replicate, List.set, evB, hto, ints_one, ints_app, ints_take, hot]
              · have e3 : (decide (m.1 ≥ 0)) = false := by simpa using hc
                have hpp : pOut m = none := by unfold pOut; rw [if_neg hc]
                rw [hpp] at hto
                simp only [List.append_nil] at hto
                (repeat (first | refine awp_seq ?_ | refine awp_block ?_ | ((first | refine awp_skip ?_ | refine awp_exit ?_ | refine awp_reg ttok ?_ | (refine awp_draw ttok ?dr_calm ?_; (case dr_calm => decide +kernel)) | refine awp_condM ?_); simp (maxSteps := 4000000) only [↓reduceIte, Nat.reduceLT, Nat.reduceEqDiff, reduceCtorEq, Nat.reduceAdd, Nat.reduceMul, Int.reduceLE, Int.reduceLT, Int.reduceToNat, Nat.reduceLeDiff, Nat.reduceSub, Int.reduceEq, Nat.reduceBEq, List.replicate, List.set, evB, tyA, d2, hgr, mvs_len, e3, hwj]; (repeat (with_reducible refine And.intro ?_ ?_; exact sdX)); (with_reducible first | refine awp_id ?_ | refine id_call ?_ | refine id_and ?_ | refine id_ex ?_ | refine id_all ?_ | refine id_nat ?_ | refine id_le ?_))))
                refine ⟨j + 1, by omega, by omega, mkS_le rfl ?_ ?_⟩
                · simp (maxSteps := 4000000) only [↓reduceIte, Nat.reduceLT, Nat.reduceEqDiff, reduceCtorEq, Nat.reduceAdd, Nat.reduceMul, Int.reduceLE, Int.reduceLT, Int.reduceToNat, Nat.reduceLeDiff, Nat.reduceSub, Int.reduceEq, Nat.reduceBEq, List.replicate, List.set, evB, hto]
                · simp (maxSteps := 4000000) only [↓reduceIte, Nat.reduceLT, Nat.reduceEqDiff, reduceCtorEq, Nat.reduceAdd, Nat.reduceMul, Int.reduceLE, Int.reduceLT, Int.reduceToNat, Nat.reduceLeDiff, Nat.reduceSub, Int.reduceEq, Nat.reduceBEq, List.replicate, List.set, evB, hto]
            · have d2 : decide ((j : Int) < (r.length : Int)) = false := by simpa using hjlt
              have hjt : r.take j = r := List.take_of_length_le (by omega)
              (repeat (first | refine awp_seq ?_ | refine awp_block ?_ | ((first | refine awp_skip ?_ | refine awp_exit ?_ | refine awp_reg ttok ?_ | (refine awp_draw ttok ?dr_calm ?_; (case dr_calm => decide +kernel)) | refine awp_condM ?_); simp (maxSteps := 4000000) only [↓reduceIte, Nat.reduceLT, Nat.reduceEqDiff, reduceCtorEq, Nat.reduceAdd, Nat.reduceMul, Int.reduceLE, Int.reduceLT, Int.reduceToNat, Nat.reduceLeDiff, Nat.reduceSub, Int.reduceEq, Nat.reduceBEq, List.replicate, List.set, evB, tyA, d2, hwi]; (repeat (with_reducible refine And.intro ?_ ?_; exact sdX)); (with_reducible first | refine awp_id ?_ | refine id_call ?_ | refine id_and ?_ | refine id_ex ?_ | refine id_all ?_ | refine id_nat ?_ | refine id_le ?_))))
              refine ⟨i + 1, by omega, by omega, mkS_le rfl ?_ ?_⟩
              · simp (maxSteps := 4000000) only [↓reduceIte, Nat.reduceLT, Nat.reduceEqDiff, reduceCtorEq, Nat.reduceAdd, Nat.reduceMul, Int.reduceLE, Int.reduceLT, Int.reduceToNat, Nat.reduceLeDiff, Nat.reduceSub, Int.reduceEq, Nat.reduceBEq, List.replicate, List.set, evB, hs, hjt]
              · simp (maxSteps := 4000000) only [↓reduceIte, Nat.reduceLT, Nat.reduceEqDiff, reduceCtorEq, Nat.reduceAdd, Nat.reduceMul, Int.reduceLE, Int.reduceLT, Int.reduceToNat, Nat.reduceLeDiff, Nat.reduceSub, Int.reduceEq, Nat.reduceBEq, List.replicate, List.set, evB, hs, hjt]
    · have d1 : decide ((i : Int) < (l.length : Int)) = false := by simpa using hlt
      have hlt2 : l.take i = l := List.take_of_length_le (by omega)
      rw [hlt2] at hgi ⊢
      have hres := out_is h l
      generalize gat M pOut l = o at *
      (repeat (first | refine awp_seq ?_ | refine awp_block ?_ | ((first | refine awp_skip ?_ | refine awp_exit ?_ | refine awp_reg ttok ?_ | (refine awp_draw ttok ?dr_calm ?_; (case dr_calm => decide +kernel)) | refine awp_condM ?_); simp (maxSteps := 4000000) only [↓reduceIte, Nat.reduceLT, Nat.reduceEqDiff, reduceCtorEq, Nat.reduceAdd, Nat.reduceMul, Int.reduceLE, Int.reduceLT, Int.reduceToNat, Nat.reduceLeDiff, Nat.reduceSub, Int.reduceEq, Nat.reduceBEq, List.replicate, List.set, evB, tyA, d1]; (repeat (with_reducible refine And.intro ?_ ?_; exact sdX)); (with_reducible first | refine awp_id ?_ | refine id_call ?_ | refine id_and ?_ | refine id_ex ?_ | refine id_all ?_ | refine id_nat ?_ | refine id_le ?_))))
      have hsl := sortI_len o
      have hcS := c_SortI o (by omega)
      refine callVC_M [90000] fnok28 hcS (by simp (maxSteps := 4000000) only [↓reduceIte, Nat.reduceLT, Nat.reduceEqDiff, reduceCtorEq, Nat.reduceAdd, Nat.reduceMul, Int.reduceLE, Int.reduceLT, Int.reduceToNat, Nat.reduceLeDiff, Nat.reduceSub, Int.reduceEq, Nat.reduceBEq, List.replicate, List.set, evB]; rfl) evX ?_
      simp (maxSteps := 4000000) only [↓reduceIte, Nat.reduceLT, Nat.reduceEqDiff, reduceCtorEq, Nat.reduceAdd, Nat.reduceMul, Int.reduceLE, Int.reduceLT, Int.reduceToNat, Nat.reduceLeDiff, Nat.reduceSub, Int.reduceEq, Nat.reduceBEq, List.replicate, List.set, evB, tyA, ints_len]
      (repeat (with_reducible refine And.intro ?_ ?_; exact sdX))
      (repeat (first | refine awp_seq ?_ | refine awp_block ?_ | ((first | refine awp_skip ?_ | refine awp_exit ?_ | refine awp_reg ttok ?_ | (refine awp_draw ttok ?dr_calm ?_; (case dr_calm => decide +kernel)) | refine awp_condM ?_); simp (maxSteps := 4000000) only [↓reduceIte, Nat.reduceLT, Nat.reduceEqDiff, reduceCtorEq, Nat.reduceAdd, Nat.reduceMul, Int.reduceLE, Int.reduceLT, Int.reduceToNat, Nat.reduceLeDiff, Nat.reduceSub, Int.reduceEq, Nat.reduceBEq, List.replicate, List.set, evB, tyA]; (repeat (with_reducible refine And.intro ?_ ?_; exact sdX)); (with_reducible first | refine awp_id ?_ | refine id_call ?_ | refine id_and ?_ | refine id_ex ?_ | refine id_all ?_ | refine id_nat ?_ | refine id_le ?_))))
      rw [← hsl]
      have hcC := c_CompactI (sortI o) (by omega)
      have hzl := cpzI_len (sortI o)
      have hcl := cptI_le (sortI o)
      have hct := cpzI_take (sortI o)
      refine callVC_M [90000] fnok29 hcC (by simp (maxSteps := 4000000) only [↓reduceIte, Nat.reduceLT, Nat.reduceEqDiff, reduceCtorEq, Nat.reduceAdd, Nat.reduceMul, Int.reduceLE, Int.reduceLT, Int.reduceToNat, Nat.reduceLeDiff, Nat.reduceSub, Int.reduceEq, Nat.reduceBEq, List.replicate, List.set, evB]; rfl) evX ?_
      simp (maxSteps := 4000000) only [↓reduceIte, Nat.reduceLT, Nat.reduceEqDiff, reduceCtorEq, Nat.reduceAdd, Nat.reduceMul, Int.reduceLE, Int.reduceLT, Int.reduceToNat, Nat.reduceLeDiff, Nat.reduceSub, Int.reduceEq, Nat.reduceBEq, List.replicate, List.set, evB, tyA, ints_len]
      (repeat (with_reducible refine And.intro ?_ ?_; exact sdX))
      (repeat (first | refine awp_seq ?_ | refine awp_block ?_ | ((first | refine awp_skip ?_ | refine awp_exit ?_ | refine awp_reg ttok ?_ | (refine awp_draw ttok ?dr_calm ?_; (case dr_calm => decide +kernel)) | refine awp_condM ?_); simp (maxSteps := 4000000) only [↓reduceIte, Nat.reduceLT, Nat.reduceEqDiff, reduceCtorEq, Nat.reduceAdd, Nat.reduceMul, Int.reduceLE, Int.reduceLT, Int.reduceToNat, Nat.reduceLeDiff, Nat.reduceSub, Int.reduceEq, Nat.reduceBEq, List.replicate, List.set, evB, tyA]; (repeat (with_reducible refine And.intro ?_ ?_; exact sdX)); (with_reducible first | refine awp_id ?_ | refine id_call ?_ | refine id_and ?_ | refine id_ex ?_ | refine id_all ?_ | refine id_nat ?_ | refine id_le ?_))))
      refine awp_pure 4 (d := .own 90000 0 (cptI (sortI o)).length) evX (by simp (maxSteps := 4000000) only [↓reduceIte, Nat.reduceLT, Nat.reduceEqDiff, reduceCtorEq, Nat.reduceAdd, Nat.reduceMul, Int.reduceLE, Int.reduceLT, Int.reduceToNat, Nat.reduceLeDiff, Nat.reduceSub, Int.reduceEq, Nat.reduceBEq, List.replicate, List.set, evB]; rfl) (by simp (maxSteps := 4000000) only [↓reduceIte, Nat.reduceLT, Nat.reduceEqDiff, reduceCtorEq, Nat.reduceAdd, Nat.reduceMul, Int.reduceLE, Int.reduceLT, Int.reduceToNat, Nat.reduceLeDiff, Nat.reduceSub, Int.reduceEq, Nat.reduceBEq, List.replicate, List.set, evB, ints_len, hzl]; omega) ?_
      rw [hres] at hct
      exact awp_ret (ends_plain (.inr rfl) rfl (by simp (maxSteps := 4000000) only [↓reduceIte, Nat.reduceLT, Nat.reduceEqDiff, reduceCtorEq, Nat.reduceAdd, Nat.reduceMul, Int.reduceLE, Int.reduceLT, Int.reduceToNat, Nat.reduceLeDiff, Nat.reduceSub, Int.reduceEq, Nat.reduceBEq, List.replicate, List.set, evB, ints_take, hres, hct]))
end Go.Proofs.Ytbhjmioegdgpnaa
