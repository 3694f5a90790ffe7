/-
  The contract of galliardref18.Alike.
-/
import Derived.Test.YtcfnbofapjgepaaAlk
namespace Go.Proofs.Ytcfnbofapjgepaa
open Go.Ab
set_option linter.unusedSimpArgs false
set_option linter.unusedVariables false

def kid (N M : List (List Int)) (s : S2) (c : Nat) : S2 := (toD N s.1 c, toD M s.2 c)
def kids (N M : List (List Int)) (s : S2) (c : Nat) : List S2 := (List.range c).map fun c => kid N M s c
theorem kids_len (N M : List (List Int)) (s : S2) (c : Nat) : (kids N M s c).length = c := by simp [kids]
def ix (m : Nat) (s : S2) : Nat := (s.1 + 1).toNat * (m + 1) + (s.2 + 1).toNat
def inR (k m : Nat) (s : S2) : Prop := -1 ≤ s.1 ∧ s.1 < (k : Int) ∧ -1 ≤ s.2 ∧ s.2 < (m : Int)
theorem kid_in {L k m : Nat} {N M : List (List Int)} (h : NOk L k N) (g : NOk L m M) (s : S2) (c : Nat) : inR k m (kid N M s c) := by
  have h1 := toD_ok h s.1 c
  have h2 := toD_ok g s.2 c
  unfold inR kid
  simp only; omega
theorem ix_lt {k m : Nat} {s : S2} (hs : inR k m s) : ix m s < (k + 1) * (m + 1) := by
  obtain ⟨h1, h2, h3, h4⟩ := hs
  have h5 : (s.1 + 1).toNat + 1 ≤ k + 1 := by omega
  have h6 : ((s.1 + 1).toNat + 1) * (m + 1) ≤ (k + 1) * (m + 1) := Nat.mul_le_mul h5 (Nat.le_refl _)
  rw [Nat.add_mul, Nat.one_mul] at h6
  unfold ix; omega
theorem ix_inj {k m : Nat} {s t : S2} (hs : inR k m s) (ht : inR k m t) (e : ix m s = ix m t) : s = t := by
  obtain ⟨h1, h2, h3, h4⟩ := hs
  obtain ⟨g1, g2, g3, g4⟩ := ht
  unfold ix at e
  have d1 : ((s.1 + 1).toNat * (m + 1) + (s.2 + 1).toNat) / (m + 1) = (s.1 + 1).toNat := by rw [Nat.mul_comm, Nat.mul_add_div (by omega), Nat.div_eq_of_lt (by omega), Nat.add_zero]
  have d2 : ((t.1 + 1).toNat * (m + 1) + (t.2 + 1).toNat) / (m + 1) = (t.1 + 1).toNat := by rw [Nat.mul_comm, Nat.mul_add_div (by omega), Nat.div_eq_of_lt (by omega), Nat.add_zero]
  have e1 : (s.1 + 1).toNat = (t.1 + 1).toNat := by rw [← d1, ← d2, e]
  rw [e1] at e
  exact Prod.ext (by omega) (by omega)
theorem count_set : ∀ (l : List Bool) (j : Nat), j < l.length → l.getD j false = false → (l.set j true).count true = l.count true + 1
  | [], j, h, _ => by simp at h
  | b :: l, 0, _, h => by
    simp only [List.getD_cons_zero] at h
    subst h; simp
  | b :: l, j + 1, h, h2 => by
    simp only [List.getD_cons_succ] at h2
    have := count_set l j (by simpa using h) h2
    rw [List.set_cons_succ, List.count_cons, List.count_cons, this]; omega

theorem getD_set_ne {l : List Bool} {i j : Nat} (h : i ≠ j) {x d : Bool} : (l.set i x).getD j d = l.getD j d := by simp only [List.getD, List.getElem?_set_ne h]
/-- A pair does what a word leaves. -/
def left (F G : List Bool) (N M : List (List Int)) (a b : Int) (t : S2) (u : List Nat) : Prop := ∀ v : List Nat, endsD F N t.1 (nInts v) = endsD F N a (nInts (u ++ v)) ∧ endsD G M t.2 (nInts v) = endsD G M b (nInts (u ++ v))
theorem endsD_cons {F : List Bool} {N : List (List Int)} (s : Int) (c : Nat) (v : List Nat) : endsD F N (toD N s c) (nInts v) = endsD F N s (nInts (c :: v)) := by
  have e : runD N s (nInts (c :: v)) = if s < 0 then s else runD N (toD N s c) (nInts v) := rfl
  unfold endsD
  by_cases h : s < 0
  · rw [e, if_pos h, toD_bad1 N s c (.inl h), runD_neg (by decide)]
    simp [show ¬ 0 ≤ s by omega]
  · rw [e, if_neg h]
theorem left_kid {F G : List Bool} {N M : List (List Int)} {a b : Int} {t : S2} {u : List Nat} (h : left F G N M a b t u) (c : Nat) : left F G N M a b (kid N M t c) (u ++ [c]) := fun v => by
  have := h (c :: v)
  rw [List.append_assoc]
  exact ⟨(endsD_cons t.1 c v).trans this.1, (endsD_cons t.2 c v).trans this.2⟩

structure AInv (L k m : Nat) (F G : List Bool) (N M : List (List Int)) (a b : Nat) (todo : List S2) (seen : List Bool) (i : Nat) : Prop where
  first : ((a : Int), (b : Int)) ∈ todo
  come : ∀ t ∈ todo, inR k m t ∧ ∃ u : List Nat, (∀ x ∈ u, x < L) ∧ left F G N M a b t u
  len : seen.length = (k + 1) * (m + 1)
  done : ∀ j, j < i → seen.getD (ix m (todo.getD j (-1, -1))) false = true
  close : ∀ t, inR k m t → seen.getD (ix m t) false = true → finS F t.1 = finS G t.2 ∧ ∀ c, c < L → kid N M t c ∈ todo
  bound : todo.length ≤ 1 + L * seen.count true
  at_ : i ≤ todo.length

theorem AInv.skip {L k m : Nat} {F G : List Bool} {N M : List (List Int)} {a b i : Nat} {todo : List S2} {seen : List Bool} (h : AInv L k m F G N M a b todo seen i) (hi : i < todo.length) (hs : seen.getD (ix m (todo.getD i (-1, -1))) false = true) : AInv L k m F G N M a b todo seen (i + 1) where
  first := h.first
  come := h.come
  len := h.len
  done := fun j hj => by
    rcases Nat.lt_or_ge j i with g | g
    · exact h.done j g
    · obtain rfl : j = i := by omega
      exact hs
  close := h.close
  bound := h.bound
  at_ := hi
theorem AInv.take {L k m : Nat} {F G : List Bool} {N M : List (List Int)} (hN : NOk L k N) (hM : NOk L m M) {a b i : Nat} {todo : List S2} {seen : List Bool} (h : AInv L k m F G N M a b todo seen i) (hi : i < todo.length) (hs : seen.getD (ix m (todo.getD i (-1, -1))) false = false)
    (hf : finS F (todo.getD i (-1, -1)).1 = finS G (todo.getD i (-1, -1)).2) : AInv L k m F G N M a b (todo ++ kids N M (todo.getD i (-1, -1)) L) (seen.set (ix m (todo.getD i (-1, -1))) true) (i + 1) := by
  have hp := h.come _ (getD_mem hi (-1, -1))
  have hil := ix_lt hp.1
  have hg : ∀ t, inR k m t → (seen.set (ix m (todo.getD i (-1, -1))) true).getD (ix m t) false = true → t = todo.getD i (-1, -1) ∨ seen.getD (ix m t) false = true := fun t ht hq => by
    by_cases e : ix m (todo.getD i (-1, -1)) = ix m t
    · exact .inl (ix_inj ht hp.1 e.symm)
    · right
      have e2 : (seen.set (ix m (todo.getD i (-1, -1))) true).getD (ix m t) false = seen.getD (ix m t) false := getD_set_ne e
      rw [← e2]; exact hq
  have hset : ∀ j, seen.getD j false = true → (seen.set (ix m (todo.getD i (-1, -1))) true).getD j false = true := fun j hj => (set_ble seen _).2 j hj
  have hdone : ∀ j, j < i + 1 → (seen.set (ix m (todo.getD i (-1, -1))) true).getD (ix m ((todo ++ kids N M (todo.getD i (-1, -1)) L).getD j (-1, -1))) false = true := fun j hj => by
    rw [getD_app_lt (by omega)]
    rcases Nat.lt_or_ge j i with g | g
    · exact hset _ (h.done j g)
    · obtain rfl : j = i := by omega
      have hl : ix m (todo.getD j (-1, -1)) < seen.length := by rw [h.len]; exact hil
      generalize ix m (todo.getD j (-1, -1)) = z at *
      simp [List.getD, hl]
  generalize todo.getD i (-1, -1) = p at *
  refine ⟨List.mem_append_left _ h.first, fun t ht => ?_, by rw [List.length_set]; exact h.len, hdone, fun t ht hq => ?_, ?_, ?_⟩
  · rcases List.mem_append.1 ht with q | q
    · exact h.come t q
    · simp only [kids, List.mem_map, List.mem_range] at q
      obtain ⟨c, hc, rfl⟩ := q
      obtain ⟨u, hu, hl⟩ := hp.2
      refine ⟨kid_in hN hM _ _, u ++ [c], fun x hx => ?_, left_kid hl c⟩
      rcases List.mem_append.1 hx with q | q
      · exact hu x q
      · rw [List.mem_singleton.1 q]; exact hc
  · rcases hg t ht hq with rfl | q
    · exact ⟨hf, fun c hc => List.mem_append_right _ (by simp only [kids, List.mem_map, List.mem_range]; exact ⟨c, hc, rfl⟩)⟩
    · obtain ⟨g1, g2⟩ := h.close t ht q
      exact ⟨g1, fun c hc => List.mem_append_left _ (g2 c hc)⟩
  · rw [List.length_append, kids_len, count_set _ _ (by rw [h.len]; exact hil) hs, Nat.mul_add, Nat.mul_one]
    have := h.bound; omega
  · rw [List.length_append]; omega
theorem AInv.end_ {L k m : Nat} {F G : List Bool} {N M : List (List Int)} {a b : Nat} {todo : List S2} {seen : List Bool} (h : AInv L k m F G N M a b todo seen todo.length) (u : List Nat) : (∀ x ∈ u, x < L) → ∀ t ∈ todo, endsD F N t.1 (nInts u) = endsD G M t.2 (nInts u) := by
  have hall : ∀ t ∈ todo, finS F t.1 = finS G t.2 ∧ ∀ c, c < L → kid N M t c ∈ todo := fun t ht => by
    obtain ⟨j, hj, e⟩ := List.getElem_of_mem ht
    have e2 : todo.getD j (-1, -1) = t := by rw [← e]; simp [List.getD, List.getElem?_eq_getElem hj]
    have := h.done j hj
    rw [e2] at this
    exact h.close t (h.come t ht).1 this
  induction u with
  | nil => intro _ t ht; exact (hall t ht).1
  | cons c u ih =>
    intro hu t ht
    have := ih (fun x hx => hu x (by simp [hx])) _ ((hall t ht).2 c (hu c (by simp)))
    rw [← endsD_cons, ← endsD_cons]
    exact this

def tRows (t : List S2) : List (List D) := t.map fun s => [i64 s.1, i64 s.2]
theorem tRows_len (t : List S2) : (tRows t).length = t.length := by simp [tRows]
theorem tRows_get {t : List S2} {j : Nat} (h : j < t.length) (d : S2) : (tRows t).getD j [] = [i64 (t.getD j d).1, i64 (t.getD j d).2] := by
  simp [tRows, List.getD, List.getElem?_eq_getElem h]
theorem tRows_take (t : List S2) (n : Nat) : (tRows t).take n = tRows (t.take n) := by simp [tRows]
theorem tRows_snoc (t : List S2) (a b : Int) : tRows t ++ [[i64 a, i64 b]] = tRows (t ++ [(a, b)]) := by simp [tRows]

end Go.Proofs.Ytcfnbofapjgepaa
