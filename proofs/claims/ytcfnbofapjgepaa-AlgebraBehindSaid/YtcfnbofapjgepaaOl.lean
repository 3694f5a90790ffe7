/-
  The least one's states as they are come to: plain functions and facts.
-/
import Derived.Test.YtcfnbofapjgepaaKm
import Derived.Test.YtcfnbofapjgepaaBfs
namespace Go.Proofs.Ytcfnbofapjgepaa
open Go.Ab
set_option linter.unusedSimpArgs false
set_option linter.unusedVariables false

def cl (c : List Int) (t : Int) : Int := c.getD t.toNat 0
def dead (c : List Int) (t : Int) : Bool := decide (t < 0) || decide (cl c t < 0)
def oAdd (c l : List Int) (t : Int) : List Int := if dead c t = true then l else if (l.map (cl c)).contains (cl c t) = true then l else l ++ [t]
def oRow (N : List (List Int)) (c l : List Int) (s : Nat) : Nat → List Int
  | 0 => l
  | a + 1 => oAdd c (oRow N c l s a) ((N.getD s []).getD a 0)
def oStp (N : List (List Int)) (c l : List Int) (i : Nat) : List Int := oRow N c l (l.getD i 0).toNat (N.getD (l.getD i 0).toNat []).length
def oQ (N : List (List Int)) (c : List Int) (st : Nat) : Nat → List Int
  | 0 => [(st : Int)]
  | i + 1 => if i < (oQ N c st i).length then oStp N c (oQ N c st i) i else oQ N c st i
def oAll (N : List (List Int)) (c : List Int) (st : Nat) : List Int := oQ N c st N.length
def oNum (c q : List Int) (t : Int) : Int := if dead c t = true then -1 else (((q.map (cl c)).idxOf (cl c t) : Nat) : Int)
def oFin (F : List Bool) (q : List Int) : List Bool := q.map fun s => F.getD s.toNat false
def oNx (N : List (List Int)) (c q : List Int) : List (List Int) := q.map fun s => (N.getD s.toNat []).map (oNum c q)
def intK (x : Int) : Value := .int .i64 x
theorem keyEq_int (x y : Int) : keyEq (intK x) (intK y) = (y == x) := by
  rw [show keyEq (intK x) (intK y) = (x == y) from rfl, Bool.eq_iff_iff, beq_iff_eq, beq_iff_eq]
  exact eq_comm

/-- Lists of states of which each has a class of its own. -/
structure OI (k : Nat) (c q : List Int) : Prop where
  mem : ∀ s ∈ q, 0 ≤ s ∧ s < (k : Int) ∧ 0 ≤ cl c s
  nd : (q.map (cl c)).Nodup
section
variable {L k : Nat} {N : List (List Int)} {c : List Int}
theorem oAdd_pre (q : List Int) (t : Int) : ∃ u, oAdd c q t = q ++ u := by
  unfold oAdd
  split
  · exact ⟨[], by simp⟩
  · split
    · exact ⟨[], by simp⟩
    · exact ⟨[t], rfl⟩
theorem oAdd_has {q : List Int} {t : Int} (h : dead c t = false) : cl c t ∈ (oAdd c q t).map (cl c) := by
  unfold oAdd
  rw [h, if_neg (by simp)]
  split
  · rename_i g; simpa using g
  · simp
theorem oAdd_oi {q : List Int} {t : Int} (h : OI k c q) (ht : t < (k : Int)) : OI k c (oAdd c q t) := by
  unfold oAdd
  split
  · exact h
  · rename_i hd
    simp only [dead, Bool.or_eq_true, decide_eq_true_eq, not_or] at hd
    split
    · exact h
    · rename_i hn
      refine ⟨fun s hs => ?_, ?_⟩
      · rcases List.mem_append.1 hs with g | g
        · exact h.mem s g
        · rw [List.mem_singleton] at g; subst g; omega
      · rw [List.map_append, List.nodup_append]
        refine ⟨h.nd, by simp, fun x hx y hy => ?_⟩
        simp only [List.map_cons, List.map_nil, List.mem_singleton] at hy
        subst hy
        rintro rfl
        exact hn (by simpa using hx)
theorem oRow_pre (q : List Int) (s : Nat) : ∀ a, ∃ u, oRow N c q s a = q ++ u
  | 0 => ⟨[], by simp [oRow]⟩
  | a + 1 => by
    obtain ⟨u, hu⟩ := oRow_pre q s a
    obtain ⟨v, hv⟩ := oAdd_pre (c := c) (oRow N c q s a) ((N.getD s []).getD a 0)
    exact ⟨u ++ v, by rw [oRow, hv, hu, List.append_assoc]⟩
theorem oRow_pre2 (q : List Int) (s a : Nat) : ∀ b, ∃ u, oRow N c q s (a + b) = oRow N c q s a ++ u
  | 0 => ⟨[], by simp⟩
  | b + 1 => by
    obtain ⟨u, hu⟩ := oRow_pre2 q s a b
    obtain ⟨v, hv⟩ := oAdd_pre (c := c) (oRow N c q s (a + b)) ((N.getD s []).getD (a + b) 0)
    exact ⟨u ++ v, by rw [← Nat.add_assoc, oRow, hv, hu, List.append_assoc]⟩
theorem NOk.at (h : NOk L k N) {s a : Nat} (hs : s < k) (ha : a < L) : -1 ≤ (N.getD s []).getD a 0 ∧ (N.getD s []).getD a 0 < (k : Int) := by
  have hr := h.get hs
  have hc' : a < (N.getD s []).length := by omega
  have e : (N.getD s []).getD a 0 = (N.getD s [])[a] := by
    generalize N.getD s [] = w at hc' ⊢
    simp [List.getD, List.getElem?_eq_getElem hc']
  rw [e]; exact hr.2 _ (List.getElem_mem _)
theorem oRow_oi (h : NOk L k N) {q : List Int} (hq : OI k c q) {s : Nat} (hs : s < k) : ∀ a, a ≤ L → OI k c (oRow N c q s a)
  | 0, _ => hq
  | a + 1, ha => oAdd_oi (oRow_oi h hq hs a (by omega)) (h.at hs (by omega)).2
theorem OI.get {q : List Int} (hq : OI k c q) {i : Nat} (hi : i < q.length) : ∃ n : Nat, q.getD i 0 = (n : Int) ∧ n < k ∧ 0 ≤ c.getD n 0 := by
  have e : q.getD i 0 = q[i] := by simp [List.getD, List.getElem?_eq_getElem hi]
  obtain ⟨h1, h2, h3⟩ := hq.mem _ (List.getElem_mem hi)
  obtain ⟨n, hn⟩ := Int.eq_ofNat_of_zero_le h1
  rw [hn] at h2 h3
  refine ⟨n, by rw [e, hn], by omega, ?_⟩
  have e2 : cl c ((Int.ofNat n)) = c.getD n 0 := rfl
  rw [← e2]; exact h3
theorem oQ_oi (h : NOk L k N) {st : Nat} (hst : st < k) (h0 : 0 ≤ c.getD st 0) : ∀ i, OI k c (oQ N c st i)
  | 0 => ⟨fun s hs => by
      simp only [oQ, List.mem_singleton] at hs
      subst hs
      refine ⟨by omega, by omega, by simpa [cl] using h0⟩, by simp [oQ]⟩
  | i + 1 => by
    have ih := oQ_oi h hst h0 i
    rw [oQ]
    split
    · rename_i hi
      obtain ⟨n, hn, hk, _⟩ := ih.get hi
      unfold oStp
      rw [hn, Int.toNat_natCast]
      exact oRow_oi h ih hk _ (Nat.le_of_eq (h.get hk).1)
    · exact ih
theorem oQ_pre (st i : Nat) : ∃ u, oQ N c st (i + 1) = oQ N c st i ++ u := by
  rw [oQ]
  split
  · exact oRow_pre _ _ _
  · exact ⟨[], by simp⟩
theorem oQ_pre2 (st i : Nat) : ∀ j, ∃ u, oQ N c st (i + j) = oQ N c st i ++ u
  | 0 => ⟨[], by simp⟩
  | j + 1 => by
    obtain ⟨u, hu⟩ := oQ_pre2 st i j
    obtain ⟨v, hv⟩ := oQ_pre (N := N) (c := c) st (i + j)
    exact ⟨u ++ v, by rw [← Nat.add_assoc, hv, hu, List.append_assoc]⟩
theorem oQ_stop (st : Nat) {i : Nat} (hi : ¬ i < (oQ N c st i).length) : ∀ j, oQ N c st (i + j) = oQ N c st i
  | 0 => rfl
  | j + 1 => by
    have ih := oQ_stop st hi j
    rw [← Nat.add_assoc, oQ, ih, if_neg (by omega)]
/-- No more than there are classes. -/
theorem OI.len {q : List Int} (hq : OI k c q) (hc : ∀ x ∈ c, x < (k : Int)) (hcl : c.length = k) : q.length ≤ k := by
  have h1 : ((q.map (cl c)).map Int.toNat).Nodup := by
    unfold List.Nodup
    rw [List.pairwise_map]
    refine List.Pairwise.imp_of_mem (fun {x y} hx hy hne e => hne ?_) hq.nd
    obtain ⟨s, hs, rfl⟩ := List.mem_map.1 hx
    obtain ⟨t, ht, rfl⟩ := List.mem_map.1 hy
    have h1 := (hq.mem s hs).2.2
    have h2 := (hq.mem t ht).2.2
    omega
  have h2 := nodup_len k _ h1 fun x hx => by
    obtain ⟨y, hy, rfl⟩ := List.mem_map.1 hx
    obtain ⟨s, hs, rfl⟩ := List.mem_map.1 hy
    obtain ⟨g1, g2, g3⟩ := hq.mem s hs
    have hlt : s.toNat < c.length := by omega
    have : cl c s < (k : Int) := by
      have e : cl c s = c[s.toNat] := by simp [cl, List.getD, List.getElem?_eq_getElem hlt]
      rw [e]; exact hc _ (List.getElem_mem _)
    omega
  simpa using h2
/-- A number that is found on the way is found at last. -/
theorem oNum_pre {q u : List Int} {t : Int} (h : dead c t = false → cl c t ∈ q.map (cl c)) : oNum c (q ++ u) t = oNum c q t := by
  unfold oNum
  cases hd : dead c t
  · simp only [Bool.false_eq_true, if_false]
    rw [List.map_append, List.idxOf_append, if_pos (h hd)]
  · rfl
theorem oAll_of {st i : Nat} (hi : i ≤ N.length) (hs : ¬ i < (oQ N c st i).length) : oQ N c st i = oAll N c st := by
  have := oQ_stop (N := N) (c := c) st hs (N.length - i)
  rw [show i + (N.length - i) = N.length by omega] at this
  exact this.symm
theorem oAll_pre {st i : Nat} (hi : i ≤ N.length) : ∃ u, oAll N c st = oQ N c st i ++ u := by
  obtain ⟨u, hu⟩ := oQ_pre2 (N := N) (c := c) st i (N.length - i)
  rw [show i + (N.length - i) = N.length by omega] at hu
  exact ⟨u, hu⟩
theorem oRow_all {st i a : Nat} (hi : i < (oQ N c st i).length) (hik : i < N.length) (ha : a ≤ (N.getD ((oQ N c st i).getD i 0).toNat []).length) : ∃ u, oAll N c st = oRow N c (oQ N c st i) ((oQ N c st i).getD i 0).toNat a ++ u := by
  obtain ⟨u, hu⟩ := oAll_pre (N := N) (c := c) (st := st) (i := i + 1) hik
  rw [oQ, if_pos hi, oStp] at hu
  obtain ⟨v, hv⟩ := oRow_pre2 (N := N) (c := c) (oQ N c st i) ((oQ N c st i).getD i 0).toNat a ((N.getD ((oQ N c st i).getD i 0).toNat []).length - a)
  rw [show a + ((N.getD ((oQ N c st i).getD i 0).toNat []).length - a) = (N.getD ((oQ N c st i).getD i 0).toNat []).length by omega] at hv
  exact ⟨v ++ u, by rw [hu, hv, List.append_assoc]⟩
end
theorem map_range_getD {α β : Type} (f : α → β) (d : α) (l : List α) : (List.range l.length).map (fun a => f (l.getD a d)) = l.map f := by
  apply List.ext_getElem
  · simp
  · intro i h1 h2
    have : i < l.length := by simpa using h2
    simp [List.getD, this]

end Go.Proofs.Ytcfnbofapjgepaa
