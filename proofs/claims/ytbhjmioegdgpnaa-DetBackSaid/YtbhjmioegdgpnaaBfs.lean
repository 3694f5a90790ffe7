/-
  Plain facts: states as they are come to, word by word, the shorter ones first.
-/
import Derived.Test.YtbhjmioegdgpnaaDfa
import Derived.Test.YtbhjmioegdgpnaaLv
namespace Go.Proofs.Ytbhjmioegdgpnaa
open Go.Ab
set_option linter.unusedSimpArgs false
set_option linter.unusedVariables false

/-- A word's number: the shorter ones first, then as they stand. -/
def cde (L : Nat) : List Nat → Nat := List.foldl (fun c x => c * L + x + 1) 0
theorem cde_nil (L : Nat) : cde L [] = 0 := rfl
theorem cde_snoc (L : Nat) (w : List Nat) (x : Nat) : cde L (w ++ [x]) = cde L w * L + x + 1 := by simp [cde, List.foldl_append]
section

abbrev S2 := Int × Int
abbrev QE (α : Type) := α × Int × Int
/-- One more, if it was not come to. -/
def bStep (ch : S2 → Nat → Option S2) (z : S2) (i c : Nat) (q : List (QE S2)) : List (QE S2) := match ch (q.getD i (z, -1, -1)).1 c with
  | some t => if (q.any fun e => e.1 == t) = true then q else q ++ [(t, (i : Int), (c : Int))]
  | none => q
def bRow (ch : S2 → Nat → Option S2) (z : S2) (i : Nat) (q : List (QE S2)) : Nat → List (QE S2)
  | 0 => q
  | c + 1 => bStep ch z i c (bRow ch z i q c)
/-- Where interactions lead. -/
def bRun (ch : S2 → Nat → Option S2) : S2 → List Nat → Option S2
  | s, [] => some s
  | s, x :: w => (ch s x).bind fun t => bRun ch t w
theorem bRun_snoc (ch : S2 → Nat → Option S2) : ∀ (w : List Nat) (s : S2) (x : Nat), bRun ch s (w ++ [x]) = (bRun ch s w).bind fun t => ch t x
  | [], s, x => by simp [bRun]
  | y :: w, s, x => by
    simp only [List.cons_append, bRun]
    cases ch s y with
    | none => rfl
    | some t => simp only [Option.bind_some]; exact bRun_snoc ch w t x
/-- The word that leads to a state. -/
def wordQ (z : S2) (q : List (QE S2)) : Nat → Nat → List Nat
  | 0, _ => []
  | n + 1, j => if (q.getD j (z, -1, -1)).2.1 < 0 then [] else wordQ z q n (q.getD j (z, -1, -1)).2.1.toNat ++ [(q.getD j (z, -1, -1)).2.2.toNat]

structure BInv (ch : S2 → Nat → Option S2) (z : S2) (L : Nat) (q : List (QE S2)) (i c : Nat) : Prop where
  pos : 1 ≤ q.length
  head : q.getD 0 (z, -1, -1) = (z, -1, -1)
  up : ∀ j, 1 ≤ j → j < q.length → ∃ u b : Nat, (q.getD j (z, -1, -1)).2 = ((u : Int), (b : Int)) ∧ u < j ∧ b < L ∧ ch (q.getD u (z, -1, -1)).1 b = some (q.getD j (z, -1, -1)).1 ∧ (u < i ∨ (u = i ∧ b < c))
  inc : ∀ j k, 1 ≤ j → j < k → k < q.length → (q.getD j (z, -1, -1)).2.1 < (q.getD k (z, -1, -1)).2.1 ∨ ((q.getD j (z, -1, -1)).2.1 = (q.getD k (z, -1, -1)).2.1 ∧ (q.getD j (z, -1, -1)).2.2 < (q.getD k (z, -1, -1)).2.2)
  dis : ∀ j k, j < k → k < q.length → (q.getD j (z, -1, -1)).1 ≠ (q.getD k (z, -1, -1)).1
  all : ∀ i' c', (i' < i ∧ c' < L ∨ i' = i ∧ c' < c) → i' < q.length → ∀ t, ch (q.getD i' (z, -1, -1)).1 c' = some t →
    ∃ j, j < q.length ∧ (q.getD j (z, -1, -1)).1 = t ∧ (j = 0 ∨ (q.getD j (z, -1, -1)).2.1 < (i' : Int) ∨ ((q.getD j (z, -1, -1)).2.1 = (i' : Int) ∧ (q.getD j (z, -1, -1)).2.2 ≤ (c' : Int)))

theorem getD_app_lt {α : Type} {l m : List α} {j : Nat} (h : j < l.length) (d : α) : (l ++ m).getD j d = l.getD j d := by
  simp [List.getD, List.getElem?_append_left h]
theorem getD_app_at {α : Type} {l : List α} {x : α} (d : α) : (l ++ [x]).getD l.length d = x := by
  simp [List.getD]

theorem BInv.init (ch : S2 → Nat → Option S2) (z : S2) (L : Nat) : BInv ch z L [(z, -1, -1)] 0 0 where
  pos := by simp
  head := rfl
  up := fun j h1 h2 => by simp at h2; omega
  inc := fun j k h1 h2 h3 => by simp at h3; omega
  dis := fun j k h1 h2 => by simp at h2; omega
  all := fun i' c' h => by omega

theorem BInv.step {ch : S2 → Nat → Option S2} {z : S2} {L : Nat} {q : List (QE S2)} {i c : Nat} (h : BInv ch z L q i c) (hi : i < q.length) (hc : c < L) : BInv ch z L (bStep ch z i c q) i (c + 1) := by
  have keep : ∀ t, ch (q.getD i (z, -1, -1)).1 c = some t → (q.any fun e => e.1 == t) = true → BInv ch z L q i (c + 1) := fun t ht ha => by
    refine ⟨h.pos, h.head, fun j h1 h2 => ?_, h.inc, h.dis, fun i' c' hq hl t' ht' => ?_⟩
    · obtain ⟨u, b, g1, g2, g3, g4, g5⟩ := h.up j h1 h2
      exact ⟨u, b, g1, g2, g3, g4, by omega⟩
    · by_cases hnew : i' = i ∧ c' = c
      · obtain ⟨rfl, rfl⟩ := hnew
        rw [ht] at ht'; cases ht'
        rw [List.any_eq_true] at ha
        obtain ⟨e, he, hee⟩ := ha
        obtain ⟨j, hj, rfl⟩ := List.getElem_of_mem he
        have eg : q.getD j (z, -1, -1) = q[j] := by simp [List.getD, List.getElem?_eq_getElem hj]
        refine ⟨j, hj, by rw [eg]; exact eq_of_beq hee, ?_⟩
        rcases Nat.eq_zero_or_pos j with rfl | hp
        · exact .inl rfl
        · obtain ⟨u, b, g1, g2, g3, g4, g5⟩ := h.up j hp hj
          rw [g1]; simp only; omega
      · exact h.all i' c' (by omega) hl t' ht'
  unfold bStep
  split
  · rename_i t ht
    split
    · rename_i ha; exact keep t ht ha
    · rename_i ha
      have hlen : (q ++ [(t, (i : Int), (c : Int))]).length = q.length + 1 := by simp
      have old : ∀ j, j < q.length → (q ++ [(t, (i : Int), (c : Int))]).getD j (z, -1, -1) = q.getD j (z, -1, -1) := fun j hj => getD_app_lt hj _
      have new : (q ++ [(t, (i : Int), (c : Int))]).getD q.length (z, -1, -1) = (t, (i : Int), (c : Int)) := getD_app_at _
      have hnot : ∀ j, j < q.length → (q.getD j (z, -1, -1)).1 ≠ t := fun j hj e => by
        apply ha
        rw [List.any_eq_true]
        refine ⟨q[j], List.getElem_mem _, ?_⟩
        have eg : q.getD j (z, -1, -1) = q[j] := by simp [List.getD, List.getElem?_eq_getElem hj]
        rw [← eg, e]; exact beq_self_eq_true _
      refine ⟨by omega, by rw [old 0 h.pos]; exact h.head, fun j h1 h2 => ?_, fun j k h1 h2 h3 => ?_, fun j k h1 h2 => ?_, fun i' c' hq hl t' ht' => ?_⟩
      · rcases Nat.lt_or_ge j q.length with g | g
        · obtain ⟨u, b, g1, g2, g3, g4, g5⟩ := h.up j h1 g
          exact ⟨u, b, by rw [old j g]; exact g1, g2, g3, by rw [old u (by omega), old j g]; exact g4, by omega⟩
        · obtain rfl : j = q.length := by omega
          exact ⟨i, c, by rw [new], by omega, hc, by rw [old i hi, new]; exact ht, by omega⟩
      · rcases Nat.lt_or_ge k q.length with g | g
        · rw [old j (by omega), old k g]; exact h.inc j k h1 h2 g
        · obtain rfl : k = q.length := by omega
          obtain ⟨u, b, g1, g2, g3, g4, g5⟩ := h.up j h1 (by omega)
          rw [old j (by omega), new, g1]
          simp only; omega
      · rcases Nat.lt_or_ge k q.length with g | g
        · rw [old j (by omega), old k g]; exact h.dis j k h1 g
        · obtain rfl : k = q.length := by omega
          rw [old j (by omega), new]; exact hnot j (by omega)
      · by_cases hnew : i' = i ∧ c' = c
        · obtain ⟨rfl, rfl⟩ := hnew
          rw [old _ hi, ht] at ht'; cases ht'
          refine ⟨q.length, by omega, by rw [new], ?_⟩
          rw [new]; simp
        · have hil : i' < q.length := by omega
          rw [old i' hil] at ht'
          obtain ⟨j, g1, g2, g3⟩ := h.all i' c' (by omega) hil t' ht'
          refine ⟨j, by omega, by rw [old j g1]; exact g2, ?_⟩
          rw [old j g1]; exact g3
  · rename_i hn
    refine ⟨h.pos, h.head, fun j h1 h2 => ?_, h.inc, h.dis, fun i' c' hq hl t' ht' => ?_⟩
    · obtain ⟨u, b, g1, g2, g3, g4, g5⟩ := h.up j h1 h2
      exact ⟨u, b, g1, g2, g3, g4, by omega⟩
    · by_cases hnew : i' = i ∧ c' = c
      · obtain ⟨rfl, rfl⟩ := hnew
        rw [hn] at ht'; cases ht'
      · exact h.all i' c' (by omega) hl t' ht'
theorem bStep_len (ch : S2 → Nat → Option S2) (z : S2) (i c : Nat) (q : List (QE S2)) : q.length ≤ (bStep ch z i c q).length := by
  unfold bStep
  split
  · split
    · exact Nat.le_refl _
    · simp
  · exact Nat.le_refl _
theorem BInv.row {ch : S2 → Nat → Option S2} {z : S2} {L : Nat} {q : List (QE S2)} {i : Nat} (h : BInv ch z L q i 0) (hi : i < q.length) : ∀ c, c ≤ L → BInv ch z L (bRow ch z i q c) i c ∧ i < (bRow ch z i q c).length
  | 0, _ => ⟨h, hi⟩
  | c + 1, hc => by
    obtain ⟨g1, g2⟩ := BInv.row h hi c (by omega)
    exact ⟨g1.step g2 (by omega), Nat.lt_of_lt_of_le g2 (bStep_len _ _ _ _ _)⟩
theorem BInv.next {ch : S2 → Nat → Option S2} {z : S2} {L : Nat} {q : List (QE S2)} {i : Nat} (h : BInv ch z L q i L) : BInv ch z L q (i + 1) 0 where
  pos := h.pos
  head := h.head
  up := fun j h1 h2 => by
    obtain ⟨u, b, g1, g2, g3, g4, g5⟩ := h.up j h1 h2
    exact ⟨u, b, g1, g2, g3, g4, by omega⟩
  inc := h.inc
  dis := h.dis
  all := fun i' c' hq => h.all i' c' (by omega)
/-- Words' numbers rise. -/
theorem BInv.code {ch : S2 → Nat → Option S2} {z : S2} {L : Nat} {q : List (QE S2)} {i c : Nat} (h : BInv ch z L q i c) {n : Nat} (hn : q.length ≤ n) : ∀ j, j < q.length → ∀ m, j < m → m ≤ n →
    (∀ x ∈ wordQ z q m j, x < L) ∧ bRun ch z (wordQ z q m j) = some (q.getD j (z, -1, -1)).1 ∧ wordQ z q m j = wordQ z q n j ∧ (∀ j', j' < j → cde L (wordQ z q n j') < cde L (wordQ z q n j)) ∧
      (1 ≤ j → cde L (wordQ z q n j) = cde L (wordQ z q n (q.getD j (z, -1, -1)).2.1.toNat) * L + (q.getD j (z, -1, -1)).2.2.toNat + 1) := by
  intro j
  induction j using Nat.strongRecOn with
  | ind j ih =>
    intro hj m hm hmn
    obtain ⟨m', rfl⟩ : ∃ m', m = m' + 1 := ⟨m - 1, by omega⟩
    obtain ⟨n', rfl⟩ : ∃ n', n = n' + 1 := ⟨n - 1, by omega⟩
    rcases Nat.eq_zero_or_pos j with rfl | hp
    · have e : ∀ k, wordQ z q (k + 1) 0 = [] := fun k => by rw [wordQ, h.head]; simp
      refine ⟨by rw [e]; simp, by rw [e, h.head]; rfl, by rw [e, e], fun j' h' => by omega, fun h' => by omega⟩
    · obtain ⟨u, b, g1, g2, g3, g4, g5⟩ := h.up j hp hj
      have e : ∀ k, wordQ z q (k + 1) j = wordQ z q k u ++ [b] := fun k => by rw [wordQ, g1]; simp only; rw [if_neg (by omega)]; simp
      obtain ⟨i1, i2, i3, i4, _⟩ := ih u g2 (by omega) m' (by omega) (by omega)
      obtain ⟨k1, k2, k3, _⟩ := ih u g2 (by omega) n' (by omega) (by omega)
      refine ⟨?_, ?_, ?_, ?_, ?_⟩
      · rw [e]
        intro x hx
        rcases List.mem_append.1 hx with q1 | q1
        · exact i1 x q1
        · rw [List.mem_singleton.1 q1]; exact g3
      · rw [e, bRun_snoc, i2]; exact g4
      · rw [e, e, i3, k3]
      · intro j' hj'
        rw [e n', k3, cde_snoc]
        rcases Nat.eq_zero_or_pos j' with rfl | hp'
        · have e0 : wordQ z q (n' + 1) 0 = [] := by rw [wordQ, h.head]; simp
          rw [e0, cde_nil]; omega
        · obtain ⟨u', b', f1, f2, f3, f4, f5⟩ := h.up j' hp' (by omega)
          have e' : wordQ z q (n' + 1) j' = wordQ z q n' u' ++ [b'] := by rw [wordQ, f1]; simp only; rw [if_neg (by omega)]; simp
          obtain ⟨_, _, l3, l4, _⟩ := ih u' (by omega) (by omega) n' (by omega) (by omega)
          rw [e', cde_snoc, l3]
          have hinc := h.inc j' j hp' hj' hj
          rw [f1, g1] at hinc
          simp only at hinc
          rcases hinc with q1 | ⟨q1, q2⟩
          · have hcd := (ih u g2 (by omega) (n' + 1) (by omega) (Nat.le_refl _)).2.2.2.1 u' (by omega)
            have : (cde L (wordQ z q (n' + 1) u') + 1) * L ≤ cde L (wordQ z q (n' + 1) u) * L := Nat.mul_le_mul hcd (Nat.le_refl _)
            rw [Nat.add_mul, Nat.one_mul] at this
            omega
          · obtain rfl : u' = u := by omega
            omega
      · intro _
        rw [e n', k3, cde_snoc, g1]
        simp
theorem BInv.mono {ch : S2 → Nat → Option S2} {z : S2} {L : Nat} {q : List (QE S2)} {i c : Nat} (h : BInv ch z L q i c) {a b : Nat} (hab : a < b) (hb : b < q.length) : cde L (wordQ z q q.length a) < cde L (wordQ z q q.length b) :=
  (h.code (Nat.le_refl _) b hb q.length hb (Nat.le_refl _)).2.2.2.1 a hab

end

/-- A list of different numbers below n has n at most. -/
theorem nodup_len : ∀ (n : Nat) (l : List Nat), l.Nodup → (∀ x ∈ l, x < n) → l.length ≤ n
  | 0, l, _, h => by
    cases l with
    | nil => simp
    | cons x l => have := h x (by simp); omega
  | n + 1, l, hd, h => by
    have hd' : (l.erase n).Nodup := hd.erase n
    have := nodup_len n (l.erase n) hd' fun x hx => by
      have h1 := h x (List.mem_of_mem_erase hx)
      have h2 : x ≠ n := fun e => by subst e; exact (List.Nodup.not_mem_erase hd) hx
      omega
    have hl := List.length_erase (a := n) (l := l)
    split at hl <;> omega

section
theorem BInv.len {ch : S2 → Nat → Option S2} {z : S2} {L : Nat} {q : List (QE S2)} {i c : Nat} (h : BInv ch z L q i c) (enc : S2 → Nat) (B : Nat) (hz : enc z < B) (hb : ∀ s x t, ch s x = some t → enc t < B) (hinj : ∀ s t, (s = z ∨ ∃ r x, ch r x = some s) → (t = z ∨ ∃ r x, ch r x = some t) → enc s = enc t → s = t) : q.length ≤ B := by
  have hst : ∀ j, j < q.length → ((q.getD j (z, -1, -1)).1 = z ∨ ∃ r x, ch r x = some (q.getD j (z, -1, -1)).1) := fun j hj => by
    rcases Nat.eq_zero_or_pos j with rfl | hp
    · left; rw [h.head]
    · obtain ⟨u, b, _, _, _, g4, _⟩ := h.up j hp hj
      exact .inr ⟨_, _, g4⟩
  have hg : ∀ j (hj : j < q.length), q.getD j (z, -1, -1) = q[j] := fun j hj => by simp [List.getD, List.getElem?_eq_getElem hj]
  have := nodup_len B (q.map fun e => enc e.1) (by
    rw [List.nodup_iff_pairwise_ne, List.pairwise_iff_getElem]
    intro a b ha hb' hab e
    simp only [List.getElem_map, List.length_map] at ha hb' e
    have h1 := hst a ha
    have h2 := hst b hb'
    have h3 := h.dis a b hab hb'
    rw [hg a ha] at h1 h3
    rw [hg b hb'] at h2 h3
    exact h3 (hinj _ _ h1 h2 e)) (fun x hx => by
    obtain ⟨e, he, rfl⟩ := List.mem_map.1 hx
    obtain ⟨j, hj, rfl⟩ := List.getElem_of_mem he
    rcases hst j hj with q1 | ⟨r, x, q1⟩
    · rw [hg j hj] at q1; rw [q1]; exact hz
    · rw [hg j hj] at q1; exact hb _ _ _ q1)
  simpa using this
end

end Go.Proofs.Ytbhjmioegdgpnaa
