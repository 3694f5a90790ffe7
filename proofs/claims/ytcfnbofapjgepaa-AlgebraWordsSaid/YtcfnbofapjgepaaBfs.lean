/-
  Plain facts: states as they are come to, word by word, the shorter ones first.
-/
import Derived.Test.YtcfnbofapjgepaaDfa
import Derived.Test.YtcfnbofapjgepaaLv
namespace Go.Proofs.Ytcfnbofapjgepaa
open Go.Ab
set_option linter.unusedSimpArgs false
set_option linter.unusedVariables false

/-- A word's number: the shorter ones first, then as they stand. -/
def cde (L : Nat) : List Nat → Nat := List.foldl (fun c x => c * L + x + 1) 0
theorem cde_nil (L : Nat) : cde L [] = 0 := rfl
theorem cde_snoc (L : Nat) (w : List Nat) (x : Nat) : cde L (w ++ [x]) = cde L w * L + x + 1 := by simp [cde, List.foldl_append]
theorem snoc_ind {α : Type} {p : List α → Prop} (h0 : p []) (h1 : ∀ w x, p w → p (w ++ [x])) : ∀ w, p w := by
  intro w
  have : ∀ n, ∀ w : List α, w.length = n → p w := by
    intro n
    induction n with
    | zero => intro w hw; rw [List.length_eq_zero_iff.1 hw]; exact h0
    | succ n ih =>
      intro w hw
      have hne : w ≠ [] := by rintro rfl; simp at hw
      rw [← List.dropLast_concat_getLast hne]
      exact h1 _ _ (ih _ (by simp [hw]))
  exact this _ w rfl
theorem cde_inj {L : Nat} : ∀ (u v : List Nat), (∀ x ∈ u, x < L) → (∀ x ∈ v, x < L) → cde L u = cde L v → u = v := by
  intro u
  refine snoc_ind (p := fun u => ∀ v, (∀ x ∈ u, x < L) → (∀ x ∈ v, x < L) → cde L u = cde L v → u = v) ?_ ?_ u
  · intro v _ _ h
    rcases List.eq_nil_or_concat v with rfl | ⟨v', y, rfl⟩
    · rfl
    · rw [List.concat_eq_append, cde_nil, cde_snoc] at h; omega
  · intro u x ih v hu hv h
    rcases List.eq_nil_or_concat v with rfl | ⟨v', y, rfl⟩
    · rw [cde_nil, cde_snoc] at h; omega
    · rw [List.concat_eq_append] at h hv ⊢
      rw [cde_snoc, cde_snoc] at h
      have hx := hu x (by simp)
      have hy := hv y (by simp)
      have e1 : cde L u = cde L v' := by
        have h' : cde L u * L + x = cde L v' * L + y := by omega
        have d1 : (cde L u * L + x) / L = cde L u := by rw [Nat.mul_comm, Nat.mul_add_div (by omega), Nat.div_eq_of_lt hx, Nat.add_zero]
        have d2 : (cde L v' * L + y) / L = cde L v' := by rw [Nat.mul_comm, Nat.mul_add_div (by omega), Nat.div_eq_of_lt hy, Nat.add_zero]
        rw [← d1, ← d2, h']
      have e2 : x = y := by rw [e1] at h; omega
      rw [ih v' (fun z hz => hu z (by simp [hz])) (fun z hz => hv z (by simp [hz])) e1, e2]

section

abbrev S2 := Int × Int
abbrev QE (α : Type) := α × Int × Int
/-- One more, if it was not come to. -/
def bStep (ch : S2 → Nat → Option S2) (z : S2) (i c : Nat) (q : List (QE S2)) : List (QE S2) := match ch (q.getD i (z, -1, -1)).1 c with
  | some t => if (q.any fun e => e.1 == t) = true then q else q ++ [(t, (i : Int), (c : Int))]
  | none => q
def bRow (ch : S2 → Nat → Option S2) (z : S2) (i : Nat) (q : List (QE S2)) : Nat → List (QE S2)
  | 0 => q
  | c + 1 => bStep ch z i c (bRow ch z i q c)
def bQ (ch : S2 → Nat → Option S2) (z : S2) (L : Nat) : Nat → List (QE S2)
  | 0 => [(z, -1, -1)]
  | i + 1 => bRow ch z i (bQ ch z L i) L
/-- Where interactions lead. -/
def bRun (ch : S2 → Nat → Option S2) : S2 → List Nat → Option S2
  | s, [] => some s
  | s, x :: w => (ch s x).bind fun t => bRun ch t w
theorem bRun_snoc (ch : S2 → Nat → Option S2) : ∀ (w : List Nat) (s : S2) (x : Nat), bRun ch s (w ++ [x]) = (bRun ch s w).bind fun t => ch t x
  | [], s, x => by simp [bRun]
  | y :: w, s, x => by
    simp only [List.cons_append, bRun]
    cases ch s y with
    | none => rfl
    | some t => simp only [Option.bind_some]; exact bRun_snoc ch w t x
/-- The word that leads to a state. -/
def wordQ (z : S2) (q : List (QE S2)) : Nat → Nat → List Nat
  | 0, _ => []
  | n + 1, j => if (q.getD j (z, -1, -1)).2.1 < 0 then [] else wordQ z q n (q.getD j (z, -1, -1)).2.1.toNat ++ [(q.getD j (z, -1, -1)).2.2.toNat]

structure BInv (ch : S2 → Nat → Option S2) (z : S2) (L : Nat) (q : List (QE S2)) (i c : Nat) : Prop where
  pos : 1 ≤ q.length
  head : q.getD 0 (z, -1, -1) = (z, -1, -1)
  up : ∀ j, 1 ≤ j → j < q.length → ∃ u b : Nat, (q.getD j (z, -1, -1)).2 = ((u : Int), (b : Int)) ∧ u < j ∧ b < L ∧ ch (q.getD u (z, -1, -1)).1 b = some (q.getD j (z, -1, -1)).1 ∧ (u < i ∨ (u = i ∧ b < c))
  inc : ∀ j k, 1 ≤ j → j < k → k < q.length → (q.getD j (z, -1, -1)).2.1 < (q.getD k (z, -1, -1)).2.1 ∨ ((q.getD j (z, -1, -1)).2.1 = (q.getD k (z, -1, -1)).2.1 ∧ (q.getD j (z, -1, -1)).2.2 < (q.getD k (z, -1, -1)).2.2)
  dis : ∀ j k, j < k → k < q.length → (q.getD j (z, -1, -1)).1 ≠ (q.getD k (z, -1, -1)).1
  all : ∀ i' c', (i' < i ∧ c' < L ∨ i' = i ∧ c' < c) → i' < q.length → ∀ t, ch (q.getD i' (z, -1, -1)).1 c' = some t →
    ∃ j, j < q.length ∧ (q.getD j (z, -1, -1)).1 = t ∧ (j = 0 ∨ (q.getD j (z, -1, -1)).2.1 < (i' : Int) ∨ ((q.getD j (z, -1, -1)).2.1 = (i' : Int) ∧ (q.getD j (z, -1, -1)).2.2 ≤ (c' : Int)))

theorem getD_app_lt {α : Type} {l m : List α} {j : Nat} (h : j < l.length) (d : α) : (l ++ m).getD j d = l.getD j d := by
  simp [List.getD, List.getElem?_append_left h]
theorem getD_app_at {α : Type} {l : List α} {x : α} (d : α) : (l ++ [x]).getD l.length d = x := by
  simp [List.getD]

theorem BInv.init (ch : S2 → Nat → Option S2) (z : S2) (L : Nat) : BInv ch z L [(z, -1, -1)] 0 0 where
  pos := by simp
  head := rfl
  up := fun j h1 h2 => by simp at h2; omega
  inc := fun j k h1 h2 h3 => by simp at h3; omega
  dis := fun j k h1 h2 => by simp at h2; omega
  all := fun i' c' h => by omega

theorem BInv.step {ch : S2 → Nat → Option S2} {z : S2} {L : Nat} {q : List (QE S2)} {i c : Nat} (h : BInv ch z L q i c) (hi : i < q.length) (hc : c < L) : BInv ch z L (bStep ch z i c q) i (c + 1) := by
  have keep : ∀ t, ch (q.getD i (z, -1, -1)).1 c = some t → (q.any fun e => e.1 == t) = true → BInv ch z L q i (c + 1) := fun t ht ha => by
    refine ⟨h.pos, h.head, fun j h1 h2 => ?_, h.inc, h.dis, fun i' c' hq hl t' ht' => ?_⟩
    · obtain ⟨u, b, g1, g2, g3, g4, g5⟩ := h.up j h1 h2
      exact ⟨u, b, g1, g2, g3, g4, by omega⟩
    · by_cases hnew : i' = i ∧ c' = c
      · obtain ⟨rfl, rfl⟩ := hnew
        rw [ht] at ht'; cases ht'
        rw [List.any_eq_true] at ha
        obtain ⟨e, he, hee⟩ := ha
        obtain ⟨j, hj, rfl⟩ := List.getElem_of_mem he
        have eg : q.getD j (z, -1, -1) = q[j] := by simp [List.getD, List.getElem?_eq_getElem hj]
        refine ⟨j, hj, by rw [eg]; exact eq_of_beq hee, ?_⟩
        rcases Nat.eq_zero_or_pos j with rfl | hp
        · exact .inl rfl
        · obtain ⟨u, b, g1, g2, g3, g4, g5⟩ := h.up j hp hj
          rw [g1]; simp only; omega
      · exact h.all i' c' (by omega) hl t' ht'
  unfold bStep
  split
  · rename_i t ht
    split
    · rename_i ha; exact keep t ht ha
    · rename_i ha
      have hlen : (q ++ [(t, (i : Int), (c : Int))]).length = q.length + 1 := by simp
      have old : ∀ j, j < q.length → (q ++ [(t, (i : Int), (c : Int))]).getD j (z, -1, -1) = q.getD j (z, -1, -1) := fun j hj => getD_app_lt hj _
      have new : (q ++ [(t, (i : Int), (c : Int))]).getD q.length (z, -1, -1) = (t, (i : Int), (c : Int)) := getD_app_at _
      have hnot : ∀ j, j < q.length → (q.getD j (z, -1, -1)).1 ≠ t := fun j hj e => by
        apply ha
        rw [List.any_eq_true]
        refine ⟨q[j], List.getElem_mem _, ?_⟩
        have eg : q.getD j (z, -1, -1) = q[j] := by simp [List.getD, List.getElem?_eq_getElem hj]
        rw [← eg, e]; exact beq_self_eq_true _
      refine ⟨by omega, by rw [old 0 h.pos]; exact h.head, fun j h1 h2 => ?_, fun j k h1 h2 h3 => ?_, fun j k h1 h2 => ?_, fun i' c' hq hl t' ht' => ?_⟩
      · rcases Nat.lt_or_ge j q.length with g | g
        · obtain ⟨u, b, g1, g2, g3, g4, g5⟩ := h.up j h1 g
          exact ⟨u, b, by rw [old j g]; exact g1, g2, g3, by rw [old u (by omega), old j g]; exact g4, by omega⟩
        · obtain rfl : j = q.length := by omega
          exact ⟨i, c, by rw [new], by omega, hc, by rw [old i hi, new]; exact ht, by omega⟩
      · rcases Nat.lt_or_ge k q.length with g | g
        · rw [old j (by omega), old k g]; exact h.inc j k h1 h2 g
        · obtain rfl : k = q.length := by omega
          obtain ⟨u, b, g1, g2, g3, g4, g5⟩ := h.up j h1 (by omega)
          rw [old j (by omega), new, g1]
          simp only; omega
      · rcases Nat.lt_or_ge k q.length with g | g
        · rw [old j (by omega), old k g]; exact h.dis j k h1 g
        · obtain rfl : k = q.length := by omega
          rw [old j (by omega), new]; exact hnot j (by omega)
      · by_cases hnew : i' = i ∧ c' = c
        · obtain ⟨rfl, rfl⟩ := hnew
          rw [old _ hi, ht] at ht'; cases ht'
          refine ⟨q.length, by omega, by rw [new], ?_⟩
          rw [new]; simp
        · have hil : i' < q.length := by omega
          rw [old i' hil] at ht'
          obtain ⟨j, g1, g2, g3⟩ := h.all i' c' (by omega) hil t' ht'
          refine ⟨j, by omega, by rw [old j g1]; exact g2, ?_⟩
          rw [old j g1]; exact g3
  · rename_i hn
    refine ⟨h.pos, h.head, fun j h1 h2 => ?_, h.inc, h.dis, fun i' c' hq hl t' ht' => ?_⟩
    · obtain ⟨u, b, g1, g2, g3, g4, g5⟩ := h.up j h1 h2
      exact ⟨u, b, g1, g2, g3, g4, by omega⟩
    · by_cases hnew : i' = i ∧ c' = c
      · obtain ⟨rfl, rfl⟩ := hnew
        rw [hn] at ht'; cases ht'
      · exact h.all i' c' (by omega) hl t' ht'
theorem bStep_len (ch : S2 → Nat → Option S2) (z : S2) (i c : Nat) (q : List (QE S2)) : q.length ≤ (bStep ch z i c q).length := by
  unfold bStep
  split
  · split
    · exact Nat.le_refl _
    · simp
  · exact Nat.le_refl _
theorem BInv.row {ch : S2 → Nat → Option S2} {z : S2} {L : Nat} {q : List (QE S2)} {i : Nat} (h : BInv ch z L q i 0) (hi : i < q.length) : ∀ c, c ≤ L → BInv ch z L (bRow ch z i q c) i c ∧ i < (bRow ch z i q c).length
  | 0, _ => ⟨h, hi⟩
  | c + 1, hc => by
    obtain ⟨g1, g2⟩ := BInv.row h hi c (by omega)
    exact ⟨g1.step g2 (by omega), Nat.lt_of_lt_of_le g2 (bStep_len _ _ _ _ _)⟩
theorem bStep_get (ch : S2 → Nat → Option S2) (z : S2) {i c j : Nat} {q : List (QE S2)} (hj : j < q.length) : (bStep ch z i c q).getD j (z, -1, -1) = q.getD j (z, -1, -1) := by
  unfold bStep
  split
  · split
    · rfl
    · exact getD_app_lt hj _
  · rfl
theorem bRow_len (ch : S2 → Nat → Option S2) (z : S2) (i : Nat) (q : List (QE S2)) : ∀ c, q.length ≤ (bRow ch z i q c).length
  | 0 => Nat.le_refl _
  | c + 1 => Nat.le_trans (bRow_len ch z i q c) (bStep_len ch z i c _)
theorem bRow_get (ch : S2 → Nat → Option S2) (z : S2) {i j : Nat} {q : List (QE S2)} (hj : j < q.length) : ∀ c, (bRow ch z i q c).getD j (z, -1, -1) = q.getD j (z, -1, -1)
  | 0 => rfl
  | c + 1 => by
    rw [bRow, bStep_get ch z (Nat.lt_of_lt_of_le hj (bRow_len ch z i q c)), bRow_get ch z hj c]
theorem BInv.next {ch : S2 → Nat → Option S2} {z : S2} {L : Nat} {q : List (QE S2)} {i : Nat} (h : BInv ch z L q i L) : BInv ch z L q (i + 1) 0 where
  pos := h.pos
  head := h.head
  up := fun j h1 h2 => by
    obtain ⟨u, b, g1, g2, g3, g4, g5⟩ := h.up j h1 h2
    exact ⟨u, b, g1, g2, g3, g4, by omega⟩
  inc := h.inc
  dis := h.dis
  all := fun i' c' hq => h.all i' c' (by omega)
/-- So many are looked at. -/
theorem bQ_inv {ch : S2 → Nat → Option S2} {z : S2} {L : Nat} : ∀ i, (∀ j, j < i → j < (bQ ch z L j).length) → BInv ch z L (bQ ch z L i) i 0
  | 0, _ => BInv.init ch z L
  | i + 1, h => (BInv.row (bQ_inv i fun j hj => h j (by omega)) (h i (by omega)) L (Nat.le_refl _)).1.next

/-- Words' numbers rise. -/
theorem BInv.code {ch : S2 → Nat → Option S2} {z : S2} {L : Nat} {q : List (QE S2)} {i c : Nat} (h : BInv ch z L q i c) {n : Nat} (hn : q.length ≤ n) : ∀ j, j < q.length → ∀ m, j < m → m ≤ n →
    (∀ x ∈ wordQ z q m j, x < L) ∧ bRun ch z (wordQ z q m j) = some (q.getD j (z, -1, -1)).1 ∧ wordQ z q m j = wordQ z q n j ∧ (∀ j', j' < j → cde L (wordQ z q n j') < cde L (wordQ z q n j)) ∧
      (1 ≤ j → cde L (wordQ z q n j) = cde L (wordQ z q n (q.getD j (z, -1, -1)).2.1.toNat) * L + (q.getD j (z, -1, -1)).2.2.toNat + 1) := by
  intro j
  induction j using Nat.strongRecOn with
  | ind j ih =>
    intro hj m hm hmn
    obtain ⟨m', rfl⟩ : ∃ m', m = m' + 1 := ⟨m - 1, by omega⟩
    obtain ⟨n', rfl⟩ : ∃ n', n = n' + 1 := ⟨n - 1, by omega⟩
    rcases Nat.eq_zero_or_pos j with rfl | hp
    · have e : ∀ k, wordQ z q (k + 1) 0 = [] := fun k => by rw [wordQ, h.head]; simp
      refine ⟨by rw [e]; simp, by rw [e, h.head]; rfl, by rw [e, e], fun j' h' => by omega, fun h' => by omega⟩
    · obtain ⟨u, b, g1, g2, g3, g4, g5⟩ := h.up j hp hj
      have e : ∀ k, wordQ z q (k + 1) j = wordQ z q k u ++ [b] := fun k => by rw [wordQ, g1]; simp only; rw [if_neg (by omega)]; simp
      obtain ⟨i1, i2, i3, i4, _⟩ := ih u g2 (by omega) m' (by omega) (by omega)
      obtain ⟨k1, k2, k3, _⟩ := ih u g2 (by omega) n' (by omega) (by omega)
      refine ⟨?_, ?_, ?_, ?_, ?_⟩
      · rw [e]
        intro x hx
        rcases List.mem_append.1 hx with q1 | q1
        · exact i1 x q1
        · rw [List.mem_singleton.1 q1]; exact g3
      · rw [e, bRun_snoc, i2]; exact g4
      · rw [e, e, i3, k3]
      · intro j' hj'
        rw [e n', k3, cde_snoc]
        rcases Nat.eq_zero_or_pos j' with rfl | hp'
        · have e0 : wordQ z q (n' + 1) 0 = [] := by rw [wordQ, h.head]; simp
          rw [e0, cde_nil]; omega
        · obtain ⟨u', b', f1, f2, f3, f4, f5⟩ := h.up j' hp' (by omega)
          have e' : wordQ z q (n' + 1) j' = wordQ z q n' u' ++ [b'] := by rw [wordQ, f1]; simp only; rw [if_neg (by omega)]; simp
          obtain ⟨_, _, l3, l4, _⟩ := ih u' (by omega) (by omega) n' (by omega) (by omega)
          rw [e', cde_snoc, l3]
          have hinc := h.inc j' j hp' hj' hj
          rw [f1, g1] at hinc
          simp only at hinc
          rcases hinc with q1 | ⟨q1, q2⟩
          · have hcd := (ih u g2 (by omega) (n' + 1) (by omega) (Nat.le_refl _)).2.2.2.1 u' (by omega)
            have : (cde L (wordQ z q (n' + 1) u') + 1) * L ≤ cde L (wordQ z q (n' + 1) u) * L := Nat.mul_le_mul hcd (Nat.le_refl _)
            rw [Nat.add_mul, Nat.one_mul] at this
            omega
          · obtain rfl : u' = u := by omega
            omega
      · intro _
        rw [e n', k3, cde_snoc, g1]
        simp
theorem BInv.mono {ch : S2 → Nat → Option S2} {z : S2} {L : Nat} {q : List (QE S2)} {i c : Nat} (h : BInv ch z L q i c) {a b : Nat} (hab : a < b) (hb : b < q.length) : cde L (wordQ z q q.length a) < cde L (wordQ z q q.length b) :=
  (h.code (Nat.le_refl _) b hb q.length hb (Nat.le_refl _)).2.2.2.1 a hab

/-- Whatever a word less than a state's leads to was come to ahead. -/
theorem BInv.least {ch : S2 → Nat → Option S2} {z : S2} {L : Nat} {q : List (QE S2)} {i : Nat} (h : BInv ch z L q i 0) (hi : i ≤ q.length) : ∀ (u : List Nat), (∀ x ∈ u, x < L) → ∀ s, bRun ch z u = some s → (i < q.length → cde L u < cde L (wordQ z q q.length i)) →
    ∃ j, j < i ∧ (q.getD j (z, -1, -1)).1 = s ∧ cde L (wordQ z q q.length j) ≤ cde L u := by
  intro u
  refine snoc_ind (p := fun u => (∀ x ∈ u, x < L) → ∀ s, bRun ch z u = some s → (i < q.length → cde L u < cde L (wordQ z q q.length i)) → ∃ j, j < i ∧ (q.getD j (z, -1, -1)).1 = s ∧ cde L (wordQ z q q.length j) ≤ cde L u) ?_ ?_ u
  · intro _ s hs hlt
    simp only [bRun, Option.some.injEq] at hs
    subst hs
    have hpos := h.pos
    have e0 : wordQ z q q.length 0 = [] := by
      obtain ⟨n, hn⟩ : ∃ n, q.length = n + 1 := ⟨q.length - 1, by omega⟩
      rw [hn, wordQ, h.head]; simp
    refine ⟨0, ?_, by rw [h.head], by rw [e0]; exact Nat.le_refl _⟩
    rcases Nat.eq_zero_or_pos i with rfl | hp
    · have := hlt (by omega)
      rw [e0] at this
      exact absurd this (Nat.lt_irrefl _)
    · exact hp
  · intro u x ih hx s hs hlt
    have hx' := hx x (by simp)
    rw [bRun_snoc] at hs
    cases hr : bRun ch z u with
    | none => rw [hr] at hs; cases hs
    | some r =>
      rw [hr, Option.bind_some] at hs
      rw [cde_snoc] at hlt ⊢
      have hm : cde L u ≤ cde L u * L := by
        have : 1 ≤ L := by omega
        calc cde L u = cde L u * 1 := (Nat.mul_one _).symm
          _ ≤ cde L u * L := Nat.mul_le_mul (Nat.le_refl _) this
      obtain ⟨j, hj, hst, hle⟩ := ih (fun y hy => hx y (by simp [hy])) r hr (fun q1 => by have := hlt q1; omega)
      have hjl : j < q.length := by omega
      rw [← hst] at hs
      obtain ⟨k, k1, k2, k3⟩ := h.all j x (.inl ⟨hj, hx'⟩) hjl s hs
      have hkc : cde L (wordQ z q q.length k) ≤ cde L (wordQ z q q.length j) * L + x + 1 := by
        rcases Nat.eq_zero_or_pos k with rfl | hkp
        · have e0 : wordQ z q q.length 0 = [] := by
            obtain ⟨n, hn⟩ : ∃ n, q.length = n + 1 := ⟨q.length - 1, by omega⟩
            rw [hn, wordQ, h.head]; simp
          rw [e0, cde_nil]; omega
        · have hc := (h.code (Nat.le_refl _) k k1 q.length k1 (Nat.le_refl _)).2.2.2.2 hkp
          obtain ⟨u', b', f1, f2, f3, f4, f5⟩ := h.up k hkp k1
          rw [f1] at hc k3
          simp only [Int.toNat_natCast] at hc k3
          rw [hc]
          rcases k3 with q1 | q1 | ⟨q1, q2⟩
          · omega
          · have := h.mono (show u' < j by omega) hjl
            have : (cde L (wordQ z q q.length u') + 1) * L ≤ cde L (wordQ z q q.length j) * L := Nat.mul_le_mul this (Nat.le_refl _)
            rw [Nat.add_mul, Nat.one_mul] at this
            omega
          · obtain rfl : u' = j := by omega
            omega
      have hjx : cde L (wordQ z q q.length j) * L ≤ cde L u * L := Nat.mul_le_mul hle (Nat.le_refl _)
      refine ⟨k, ?_, k2, by omega⟩
      rcases Nat.lt_or_ge k i with g | g
      · exact g
      · exfalso
        have hil : i < q.length := by omega
        have h1 := hlt hil
        rcases Nat.eq_or_lt_of_le g with e | e
        · subst e; omega
        · have := h.mono e k1; omega

end

/-- A list of different numbers below n has n at most. -/
theorem nodup_len : ∀ (n : Nat) (l : List Nat), l.Nodup → (∀ x ∈ l, x < n) → l.length ≤ n
  | 0, l, _, h => by
    cases l with
    | nil => simp
    | cons x l => have := h x (by simp); omega
  | n + 1, l, hd, h => by
    have hd' : (l.erase n).Nodup := hd.erase n
    have := nodup_len n (l.erase n) hd' fun x hx => by
      have h1 := h x (List.mem_of_mem_erase hx)
      have h2 : x ≠ n := fun e => by subst e; exact (List.Nodup.not_mem_erase hd) hx
      omega
    have hl := List.length_erase (a := n) (l := l)
    split at hl <;> omega

section
theorem BInv.len {ch : S2 → Nat → Option S2} {z : S2} {L : Nat} {q : List (QE S2)} {i c : Nat} (h : BInv ch z L q i c) (enc : S2 → Nat) (B : Nat) (hz : enc z < B) (hb : ∀ s x t, ch s x = some t → enc t < B) (hinj : ∀ s t, (s = z ∨ ∃ r x, ch r x = some s) → (t = z ∨ ∃ r x, ch r x = some t) → enc s = enc t → s = t) : q.length ≤ B := by
  have hst : ∀ j, j < q.length → ((q.getD j (z, -1, -1)).1 = z ∨ ∃ r x, ch r x = some (q.getD j (z, -1, -1)).1) := fun j hj => by
    rcases Nat.eq_zero_or_pos j with rfl | hp
    · left; rw [h.head]
    · obtain ⟨u, b, _, _, _, g4, _⟩ := h.up j hp hj
      exact .inr ⟨_, _, g4⟩
  have hg : ∀ j (hj : j < q.length), q.getD j (z, -1, -1) = q[j] := fun j hj => by simp [List.getD, List.getElem?_eq_getElem hj]
  have := nodup_len B (q.map fun e => enc e.1) (by
    rw [List.nodup_iff_pairwise_ne, List.pairwise_iff_getElem]
    intro a b ha hb' hab e
    simp only [List.getElem_map, List.length_map] at ha hb' e
    have h1 := hst a ha
    have h2 := hst b hb'
    have h3 := h.dis a b hab hb'
    rw [hg a ha] at h1 h3
    rw [hg b hb'] at h2 h3
    exact h3 (hinj _ _ h1 h2 e)) (fun x hx => by
    obtain ⟨e, he, rfl⟩ := List.mem_map.1 hx
    obtain ⟨j, hj, rfl⟩ := List.getElem_of_mem he
    rcases hst j hj with q1 | ⟨r, x, q1⟩
    · rw [hg j hj] at q1; rw [q1]; exact hz
    · rw [hg j hj] at q1; exact hb _ _ _ q1)
  simpa using this
end

end Go.Proofs.Ytcfnbofapjgepaa
