/-
  The contracts of slices.Reverse, lang.final, lang.word.
-/
import Derived.Test.YtcfnbofapjgepaaEnds
import Derived.Test.YtcfnbofapjgepaaBfs
namespace Go.Proofs.Ytcfnbofapjgepaa
open Go.Ab
set_option linter.unusedSimpArgs false
set_option linter.unusedVariables false

/-- Turned round from both ends, so far. -/
def revP (l : List Int) (i : Nat) : List Int := (List.range l.length).map fun x => if x < i ∨ l.length - i ≤ x then l.getD (l.length - 1 - x) 0 else l.getD x 0
theorem revP_len (l : List Int) (i : Nat) : (revP l i).length = l.length := by simp [revP]
theorem revP_get {l : List Int} {i x : Nat} (hx : x < l.length) : (revP l i).getD x 0 = if x < i ∨ l.length - i ≤ x then l.getD (l.length - 1 - x) 0 else l.getD x 0 := by
  simp [revP, List.getD, hx]
theorem revP_zero (l : List Int) : revP l 0 = l := by
  apply List.ext_getElem (by simp [revP])
  intro x h1 h2
  simp only [revP, List.getElem_map, List.getElem_range, Nat.not_lt_zero, Nat.sub_zero, false_or]
  rw [if_neg (by omega)]
  simp [List.getD, List.getElem?_eq_getElem h2]
theorem revP_all (l : List Int) {i : Nat} (h : l.length ≤ 2 * i + 1) : revP l i = l.reverse := by
  apply List.ext_getElem (by simp [revP])
  intro x h1 h2
  have hx : x < l.length := by simpa using h2
  simp only [revP, List.getElem_map, List.getElem_range, List.getElem_reverse]
  split
  · simp [List.getD, List.getElem?_eq_getElem (show l.length - 1 - x < l.length by omega)]
  · have : x = l.length - 1 - x := by omega
    simp only [List.getD, List.getElem?_eq_getElem hx, Option.getD_some]
    congr 1
theorem revP_set {l : List Int} {i : Nat} (h : i < l.length - 1 - i) : ((revP l i).set i ((revP l i).getD (l.length - 1 - i) 0)).set (l.length - 1 - i) ((revP l i).getD i 0) = revP l (i + 1) := by
  rw [revP_get (by omega), revP_get (by omega), if_neg (by omega), if_neg (by omega)]
  apply List.ext_getElem (by simp [revP])
  intro x h1 h2
  have hx : x < l.length := by simpa [revP] using h2
  rw [List.getElem_set, List.getElem_set]
  simp only [revP, List.getElem_map, List.getElem_range]
  by_cases a1 : l.length - 1 - i = x
  · rw [if_pos a1, if_pos (by omega)]
    congr 1; omega
  · rw [if_neg a1]
    by_cases a2 : i = x
    · rw [if_pos a2, if_pos (by omega)]
      congr 1; omega
    · rw [if_neg a2]
      by_cases a3 : x < i ∨ l.length - i ≤ x
      · rw [if_pos a3, if_pos (by omega)]
      · rw [if_neg a3, if_neg (by omega)]

set_option maxRecDepth 20000 in
set_option maxHeartbeats 16000000 in
theorem c_Rev (l : List Int) (hl : l.length ≤ 1000000) : ContractM Try.prog 44 [{ sz := 1, rows := ints l }] [.own 0 0 l.length] (.tup []) [some { sz := 1, rows := ints l.reverse }] := by
  refine contractM_of_awp (rs := []) Try.func44 rfl Try.ntmps44 (by simp) rfl fun E => ?_
  have hw0 : IntKind.i64.wrap ((l.length : Int) - 1) = (l.length : Int) - 1 := i64_in (by omega) (by omega)
  (repeat (first | refine awp_seq ?_ | refine awp_block ?_ | ((first | refine awp_skip ?_ | refine awp_exit ?_ | refine awp_reg ttok ?_ | (refine awp_draw ttok ?dr_calm ?_; (case dr_calm => decide +kernel)) | refine awp_condM ?_); simp (maxSteps := 4000000) only [↓reduceIte, Nat.reduceLT, Nat.reduceEqDiff, reduceCtorEq, Nat.reduceAdd, Nat.reduceMul, Int.reduceLE, Int.reduceLT, Int.reduceToNat, Nat.reduceLeDiff, Nat.reduceSub, Int.reduceEq, Nat.reduceBEq, List.replicate, List.set, if_false, if_true, ne_eq, false_implies, implies_true, evA, tyA, ints_len, hw0]; (repeat (with_reducible refine And.intro ?_ ?_; focus ((repeat' with_reducible apply And.intro) <;> (first | omega | with_reducible trivial | with_reducible assumption)))); (with_reducible first | refine awp_id ?_ | refine id_call ?_ | refine id_and ?_ | refine id_ex ?_ | refine id_all ?_ | refine id_nat ?_ | refine id_le ?_))))
  refine awp_loop (X := Nat) (fun i => mkS 28 [(0, .own 0 0 l.length), (2, i64 i), (3, i64 ((l.length : Int) - 1 - i))] [(0, { sz := 1, rows := ints (revP l i), pin := true })]) (fun i => 2 * i ≤ l.length + 1) (fun i => l.length - i) 0 (by omega) (mkS_le rfl ?_ ?_) ?_
  · simp (maxSteps := 4000000) only [↓reduceIte, Nat.reduceLT, Nat.reduceEqDiff, reduceCtorEq, Nat.reduceAdd, Nat.reduceMul, Int.reduceLE, Int.reduceLT, Int.reduceToNat, Nat.reduceLeDiff, Nat.reduceSub, Int.reduceEq, Nat.reduceBEq, List.replicate, List.set, if_false, if_true, ne_eq, false_implies, implies_true, evA]
    exact ⟨rfl, by simp⟩
  · simp (maxSteps := 4000000) only [↓reduceIte, Nat.reduceLT, Nat.reduceEqDiff, reduceCtorEq, Nat.reduceAdd, Nat.reduceMul, Int.reduceLE, Int.reduceLT, Int.reduceToNat, Nat.reduceLeDiff, Nat.reduceSub, Int.reduceEq, Nat.reduceBEq, List.replicate, List.set, if_false, if_true, ne_eq, false_implies, implies_true, evA, revP_zero]
  · intro i hi
    by_cases hlt : i < l.length - 1 - i
    · have d1 : decide ((i : Int) < (l.length : Int) - 1 - i) = true := by simp; omega
      have hset := revP_set hlt
      have hrl := revP_len l i
      obtain ⟨j, hj⟩ : ∃ j, j = l.length - 1 - i := ⟨_, rfl⟩
      have hji : (l.length : Int) - 1 - i = (j : Int) := by omega
      have hwi : IntKind.i64.wrap ((i : Int) + 1) = ((i + 1 : Nat) : Int) := i64_in (by omega) (by omega)
      have hwj : IntKind.i64.wrap ((j : Int) - 1) = (j : Int) - 1 := i64_in (by omega) (by omega)
      rw [← hj] at hset hlt
      rw [hji] at d1 ⊢
      have g1 := ints_get (l := revP l i) (i := i) (by omega)
      have g2 := ints_get (l := revP l i) (i := j) (by omega)
      generalize hx : (revP l i).getD i 0 = x at *
      generalize hy : (revP l i).getD j 0 = y at *
      have g3 : (ints ((revP l i).set i y)).getD j [] = [i64 y] := by
        rw [ints_get (by simp; omega)]
        congr 2
        rw [← hy]
        simp [List.getD, List.getElem?_set_ne (show i ≠ j by omega)]
      have s1 : (ints (revP l i)).set i [i64 y] = ints ((revP l i).set i y) := by simp [ints]
      have s2 : (ints ((revP l i).set i y)).set j [i64 x] = ints (((revP l i).set i y).set j x) := by simp [ints]
      have hl2 : ((revP l i).set i y).length = l.length := by simp [hrl]
      (repeat (first | refine awp_seq ?_ | refine awp_block ?_ | ((first | refine awp_skip ?_ | refine awp_exit ?_ | refine awp_reg ttok ?_ | (refine awp_draw ttok ?dr_calm ?_; (case dr_calm => decide +kernel)) | refine awp_condM ?_); simp (maxSteps := 4000000) only [↓reduceIte, Nat.reduceLT, Nat.reduceEqDiff, reduceCtorEq, Nat.reduceAdd, Nat.reduceMul, Int.reduceLE, Int.reduceLT, Int.reduceToNat, Nat.reduceLeDiff, Nat.reduceSub, Int.reduceEq, Nat.reduceBEq, List.replicate, List.set, if_false, if_true, ne_eq, false_implies, implies_true, evA, tyA, d1]; (repeat (with_reducible refine And.intro ?_ ?_; focus ((repeat' with_reducible apply And.intro) <;> (first | omega | with_reducible trivial | with_reducible assumption)))); (with_reducible first | refine awp_id ?_ | refine id_call ?_ | refine id_and ?_ | refine id_ex ?_ | refine id_all ?_ | refine id_nat ?_ | refine id_le ?_))))
      refine awp_drawG ttok ((0, none) :: (1, none) :: (2, none) :: (3, none) :: (4, none) :: (5, none) :: (6, none) :: (7, none) :: (8, none) :: (9, none) :: (10, none) :: (11, none) :: (12, none) :: (13, some [2, 3]) :: (14, none) :: (15, some []) :: []) (0 :: 1 :: 2 :: 3 :: 4 :: 5 :: 6 :: 7 :: 8 :: 9 :: 10 :: 11 :: 12 :: 13 :: 14 :: 15 :: []) (0 :: 1 :: 4 :: 5 :: 6 :: 7 :: 8 :: 9 :: 10 :: 11 :: 12 :: 13 :: 2 :: 3 :: 14 :: 15 :: []) (by decide +kernel) fun O hO => ?_; simp only [OpsAre, Nat.reduceAdd, and_true, List.toList_toArray, List.append_eq, List.cons_append, List.nil_append] at hO; simp (maxSteps := 4000000) only [↓reduceIte, Nat.reduceLT, Nat.reduceEqDiff, reduceCtorEq, Nat.reduceAdd, Nat.reduceMul, Int.reduceLE, Int.reduceLT, Int.reduceToNat, Nat.reduceLeDiff, Nat.reduceSub, Int.reduceEq, Nat.reduceBEq, List.replicate, List.set, if_false, if_true, ne_eq, false_implies, implies_true, evA, tyA, hO, ints_len, hrl, g1, g2, g3, s1, s2, hl2]; (repeat (with_reducible refine And.intro ?_ ?_; focus ((repeat' with_reducible apply And.intro) <;> (first | omega | with_reducible trivial | with_reducible assumption))))
      (repeat (first | refine awp_seq ?_ | refine awp_block ?_ | ((first | refine awp_skip ?_ | refine awp_exit ?_ | refine awp_reg ttok ?_ | (refine awp_draw ttok ?dr_calm ?_; (case dr_calm => decide +kernel)) | refine awp_condM ?_); simp (maxSteps := 4000000) only [↓reduceIte, Nat.reduceLT, Nat.reduceEqDiff, reduceCtorEq, Nat.reduceAdd, Nat.reduceMul, Int.reduceLE, Int.reduceLT, Int.reduceToNat, Nat.reduceLeDiff, Nat.reduceSub, Int.reduceEq, Nat.reduceBEq, List.replicate, List.set, if_false, if_true, ne_eq, false_implies, implies_true, evA, tyA, hwi, hwj]; (repeat (with_reducible refine And.intro ?_ ?_; focus ((repeat' with_reducible apply And.intro) <;> (first | omega | with_reducible trivial | with_reducible assumption)))); (with_reducible first | refine awp_id ?_ | refine id_call ?_ | refine id_and ?_ | refine id_ex ?_ | refine id_all ?_ | refine id_nat ?_ | refine id_le ?_))))
      refine ⟨i + 1, by omega, by omega, mkS_le rfl ?_ ?_⟩
      · simp (maxSteps := 4000000) only [↓reduceIte, Nat.reduceLT, Nat.reduceEqDiff, reduceCtorEq, Nat.reduceAdd, Nat.reduceMul, Int.reduceLE, Int.reduceLT, Int.reduceToNat, Nat.reduceLeDiff, Nat.reduceSub, Int.reduceEq, Nat.reduceBEq, List.replicate, List.set, if_false, if_true, ne_eq, false_implies, implies_true, evA]
        have : (j : Int) - 1 = (l.length : Int) - 1 - ((i + 1 : Nat) : Int) := by omega
        rw [this]
      · simp (maxSteps := 4000000) only [↓reduceIte, Nat.reduceLT, Nat.reduceEqDiff, reduceCtorEq, Nat.reduceAdd, Nat.reduceMul, Int.reduceLE, Int.reduceLT, Int.reduceToNat, Nat.reduceLeDiff, Nat.reduceSub, Int.reduceEq, Nat.reduceBEq, List.replicate, List.set, if_false, if_true, ne_eq, false_implies, implies_true, evA, g1, g2, g3, s1, s2, hset]
    · have d1 : decide ((i : Int) < (l.length : Int) - 1 - i) = false := by simp; omega
      have hall := revP_all l (i := i) (by omega)
      (repeat (first | refine awp_seq ?_ | refine awp_block ?_ | ((first | refine awp_skip ?_ | refine awp_exit ?_ | refine awp_reg ttok ?_ | (refine awp_draw ttok ?dr_calm ?_; (case dr_calm => decide +kernel)) | refine awp_condM ?_); simp (maxSteps := 4000000) only [↓reduceIte, Nat.reduceLT, Nat.reduceEqDiff, reduceCtorEq, Nat.reduceAdd, Nat.reduceMul, Int.reduceLE, Int.reduceLT, Int.reduceToNat, Nat.reduceLeDiff, Nat.reduceSub, Int.reduceEq, Nat.reduceBEq, List.replicate, List.set, if_false, if_true, ne_eq, false_implies, implies_true, evA, tyA, d1]; (repeat (with_reducible refine And.intro ?_ ?_; focus ((repeat' with_reducible apply And.intro) <;> (first | omega | with_reducible trivial | with_reducible assumption)))); (with_reducible first | refine awp_id ?_ | refine id_call ?_ | refine id_and ?_ | refine id_ex ?_ | refine id_all ?_ | refine id_nat ?_ | refine id_le ?_))))
      exact endsM [0] (.inl rfl) (by simp (maxSteps := 4000000) only [↓reduceIte, Nat.reduceLT, Nat.reduceEqDiff, reduceCtorEq, Nat.reduceAdd, Nat.reduceMul, Int.reduceLE, Int.reduceLT, Int.reduceToNat, Nat.reduceLeDiff, Nat.reduceSub, Int.reduceEq, Nat.reduceBEq, List.replicate, List.set, if_false, if_true, ne_eq, false_implies, implies_true, evA]) (by simp (maxSteps := 4000000) only [↓reduceIte, Nat.reduceLT, Nat.reduceEqDiff, reduceCtorEq, Nat.reduceAdd, Nat.reduceMul, Int.reduceLE, Int.reduceLT, Int.reduceToNat, Nat.reduceLeDiff, Nat.reduceSub, Int.reduceEq, Nat.reduceBEq, List.replicate, List.set, if_false, if_true, ne_eq, false_implies, implies_true, evA, hall])

theorem c_final (L st : Nat) (F : List Bool) (N : List (List Int)) (s : Int) : Contract Try.prog 26 [dfaD L st F N, i64 s] (bo (decide (0 ≤ s) && F.getD s.toNat false)) [] := by
  refine contract_of_awp (rs := [4]) Try.func26 rfl Try.ntmps26 (by simp) rfl fun E => ?_
  by_cases ha : 0 ≤ s
  · have d2 : decide (s ≥ 0) = true := by simpa using ha
    have d2' : decide (0 ≤ s) = true := by simpa using ha
    obtain ⟨y, rfl⟩ := Int.eq_ofNat_of_zero_le ha
    by_cases hy : y < F.length
    · have d3 : decide ((y : Int) < (F.length : Int)) = true := by simpa using hy
      have hg := bos_get hy
      (repeat (first | refine awp_seq ?_ | refine awp_block ?_ | ((first | refine awp_skip ?_ | refine awp_exit ?_ | refine awp_reg ttok ?_ | (refine awp_draw ttok ?dr_calm ?_; (case dr_calm => decide +kernel)) | refine awp_condM ?_); simp (maxSteps := 4000000) only [↓reduceIte, Nat.reduceLT, Nat.reduceEqDiff, reduceCtorEq, Nat.reduceAdd, Nat.reduceMul, Int.reduceLE, Int.reduceLT, Int.reduceToNat, Nat.reduceLeDiff, Nat.reduceSub, Int.reduceEq, Nat.reduceBEq, List.replicate, List.set, if_false, if_true, ne_eq, false_implies, implies_true, evA, tyA, dfaD, d2, bos_len, d3, hg]; (repeat (with_reducible refine And.intro ?_ ?_; focus ((repeat' with_reducible apply And.intro) <;> (first | omega | with_reducible trivial | with_reducible assumption)))); (with_reducible first | refine awp_id ?_ | refine id_call ?_ | refine id_and ?_ | refine id_ex ?_ | refine id_all ?_ | refine id_nat ?_ | refine id_le ?_))))
      exact awp_ret (ends_plain (.inr rfl) rfl (by simp (maxSteps := 4000000) only [↓reduceIte, Nat.reduceLT, Nat.reduceEqDiff, reduceCtorEq, Nat.reduceAdd, Nat.reduceMul, Int.reduceLE, Int.reduceLT, Int.reduceToNat, Nat.reduceLeDiff, Nat.reduceSub, Int.reduceEq, Nat.reduceBEq, List.replicate, List.set, if_false, if_true, ne_eq, false_implies, implies_true, evA, d2', Bool.true_and, Int.toNat_natCast]))
    · have d3 : decide ((y : Int) < (F.length : Int)) = false := by simpa using hy
      have hg : F.getD y false = false := by simp [List.getD, List.getElem?_eq_none (show F.length ≤ y by omega)]
      (repeat (first | refine awp_seq ?_ | refine awp_block ?_ | ((first | refine awp_skip ?_ | refine awp_exit ?_ | refine awp_reg ttok ?_ | (refine awp_draw ttok ?dr_calm ?_; (case dr_calm => decide +kernel)) | refine awp_condM ?_); simp (maxSteps := 4000000) only [↓reduceIte, Nat.reduceLT, Nat.reduceEqDiff, reduceCtorEq, Nat.reduceAdd, Nat.reduceMul, Int.reduceLE, Int.reduceLT, Int.reduceToNat, Nat.reduceLeDiff, Nat.reduceSub, Int.reduceEq, Nat.reduceBEq, List.replicate, List.set, if_false, if_true, ne_eq, false_implies, implies_true, evA, tyA, dfaD, d2, bos_len, d3]; (repeat (with_reducible refine And.intro ?_ ?_; focus ((repeat' with_reducible apply And.intro) <;> (first | omega | with_reducible trivial | with_reducible assumption)))); (with_reducible first | refine awp_id ?_ | refine id_call ?_ | refine id_and ?_ | refine id_ex ?_ | refine id_all ?_ | refine id_nat ?_ | refine id_le ?_))))
      exact awp_ret (ends_plain (.inr rfl) rfl (by simp (maxSteps := 4000000) only [↓reduceIte, Nat.reduceLT, Nat.reduceEqDiff, reduceCtorEq, Nat.reduceAdd, Nat.reduceMul, Int.reduceLE, Int.reduceLT, Int.reduceToNat, Nat.reduceLeDiff, Nat.reduceSub, Int.reduceEq, Nat.reduceBEq, List.replicate, List.set, if_false, if_true, ne_eq, false_implies, implies_true, evA, d2', Bool.true_and, Int.toNat_natCast, hg]))
  · have d2 : decide (s ≥ 0) = false := by simpa using ha
    have d2' : decide (0 ≤ s) = false := by simpa using ha
    (repeat (first | refine awp_seq ?_ | refine awp_block ?_ | ((first | refine awp_skip ?_ | refine awp_exit ?_ | refine awp_reg ttok ?_ | (refine awp_draw ttok ?dr_calm ?_; (case dr_calm => decide +kernel)) | refine awp_condM ?_); simp (maxSteps := 4000000) only [↓reduceIte, Nat.reduceLT, Nat.reduceEqDiff, reduceCtorEq, Nat.reduceAdd, Nat.reduceMul, Int.reduceLE, Int.reduceLT, Int.reduceToNat, Nat.reduceLeDiff, Nat.reduceSub, Int.reduceEq, Nat.reduceBEq, List.replicate, List.set, if_false, if_true, ne_eq, false_implies, implies_true, evA, tyA, dfaD, d2]; (repeat (with_reducible refine And.intro ?_ ?_; focus ((repeat' with_reducible apply And.intro) <;> (first | omega | with_reducible trivial | with_reducible assumption)))); (with_reducible first | refine awp_id ?_ | refine id_call ?_ | refine id_and ?_ | refine id_ex ?_ | refine id_all ?_ | refine id_nat ?_ | refine id_le ?_))))
    exact awp_ret (ends_plain (.inr rfl) rfl (by simp (maxSteps := 4000000) only [↓reduceIte, Nat.reduceLT, Nat.reduceEqDiff, reduceCtorEq, Nat.reduceAdd, Nat.reduceMul, Int.reduceLE, Int.reduceLT, Int.reduceToNat, Nat.reduceLeDiff, Nat.reduceSub, Int.reduceEq, Nat.reduceBEq, List.replicate, List.set, if_false, if_true, ne_eq, false_implies, implies_true, evA, d2', Bool.false_and]))

/-- States in order, as rows. -/
def qRows (q : List (QE S2)) : List (List D) := q.map fun e => [i64 e.1.1, i64 e.1.2, i64 e.2.1, i64 e.2.2]
theorem qRows_len (q : List (QE S2)) : (qRows q).length = q.length := by simp [qRows]
theorem qRows_get {q : List (QE S2)} {j : Nat} (h : j < q.length) (d : QE S2) : (qRows q).getD j [] = [i64 (q.getD j d).1.1, i64 (q.getD j d).1.2, i64 (q.getD j d).2.1, i64 (q.getD j d).2.2] := by
  simp [qRows, List.getD, List.getElem?_eq_getElem h]
theorem qRows_row (q : List (QE S2)) : (∀ row ∈ qRows q, row.length = 4) = True := by
  simp only [qRows, List.mem_map, eq_iff_iff, iff_true]
  rintro row ⟨e, _, rfl⟩; rfl
theorem qRows_take (q : List (QE S2)) (n : Nat) : (qRows q).take n = qRows (q.take n) := by simp [qRows]
theorem qRows_snoc (q : List (QE S2)) (a b u x : Int) : qRows q ++ [[i64 a, i64 b, i64 u, i64 x]] = qRows (q ++ [((a, b), u, x)]) := by simp [qRows]
def nInts (w : List Nat) : List Int := w.map fun (x : Nat) => (x : Int)

theorem BInv.word0 {ch : S2 → Nat → Option S2} {z : S2} {L : Nat} {q : List (QE S2)} {i c : Nat} (h : BInv ch z L q i c) : wordQ z q q.length 0 = [] := by
  have := h.pos
  obtain ⟨n, hn⟩ : ∃ n, q.length = n + 1 := ⟨q.length - 1, by omega⟩
  rw [hn, wordQ, h.head]; simp
theorem BInv.wordS {ch : S2 → Nat → Option S2} {z : S2} {L : Nat} {q : List (QE S2)} {i c : Nat} (h : BInv ch z L q i c) {j : Nat} (h1 : 1 ≤ j) (hj : j < q.length) : ∃ u b : Nat, (q.getD j (z, -1, -1)).2 = ((u : Int), (b : Int)) ∧ u < j ∧ b < L ∧ wordQ z q q.length j = wordQ z q q.length u ++ [b] := by
  obtain ⟨u, b, g1, g2, g3, _⟩ := h.up j h1 hj
  refine ⟨u, b, g1, g2, g3, ?_⟩
  obtain ⟨n, hn⟩ : ∃ n, q.length = n + 1 := ⟨q.length - 1, by omega⟩
  have e : wordQ z q (n + 1) j = wordQ z q n u ++ [b] := by rw [wordQ, g1]; simp only; rw [if_neg (by omega)]; simp
  have e2 := (h.code (n := q.length) (Nat.le_refl _) u (by omega) n (by omega) (by omega)).2.2.1
  rw [hn] at e2 ⊢
  rw [e, e2]

set_option maxRecDepth 20000 in
set_option maxHeartbeats 16000000 in
theorem c_word {ch : S2 → Nat → Option S2} {z : S2} {L : Nat} {q : List (QE S2)} {i c : Nat} (h : BInv ch z L q i c) (hL : L ≤ 100000) (hq : q.length ≤ 20000) (f : Bool) (j : Nat) (hj : j < q.length) :
    Contract Try.prog 27 [.sl f (qRows q), i64 j] (.own 0 0 (wordQ z q q.length j).length) [{ sz := 1, rows := ints (nInts (wordQ z q q.length j)) }] := by
  refine contract_of_awp (rs := [4]) Try.func27 rfl Try.ntmps27 (by simp) rfl fun E => ?_
  (repeat (first | refine awp_seq ?_ | refine awp_block ?_ | ((first | refine awp_skip ?_ | refine awp_exit ?_ | refine awp_reg ttok ?_ | (refine awp_draw ttok ?dr_calm ?_; (case dr_calm => decide +kernel)) | refine awp_condM ?_); simp (maxSteps := 4000000) only [↓reduceIte, Nat.reduceLT, Nat.reduceEqDiff, reduceCtorEq, Nat.reduceAdd, Nat.reduceMul, Int.reduceLE, Int.reduceLT, Int.reduceToNat, Nat.reduceLeDiff, Nat.reduceSub, Int.reduceEq, Nat.reduceBEq, List.replicate, List.set, if_false, if_true, ne_eq, false_implies, implies_true, evA, tyA]; (repeat (with_reducible refine And.intro ?_ ?_; focus ((repeat' with_reducible apply And.intro) <;> (first | omega | with_reducible trivial | with_reducible assumption)))); (with_reducible first | refine awp_id ?_ | refine id_call ?_ | refine id_and ?_ | refine id_ex ?_ | refine id_all ?_ | refine id_nat ?_ | refine id_le ?_))))
  refine awp_own_nil 5 90000 1 (by simp (maxSteps := 4000000) only [↓reduceIte, Nat.reduceLT, Nat.reduceEqDiff, reduceCtorEq, Nat.reduceAdd, Nat.reduceMul, Int.reduceLE, Int.reduceLT, Int.reduceToNat, Nat.reduceLeDiff, Nat.reduceSub, Int.reduceEq, Nat.reduceBEq, List.replicate, List.set, if_false, if_true, ne_eq, false_implies, implies_true, evA]) (by decide) ?_
  refine awp_loop (X := Nat × List Nat) (fun x => mkS 28 [(0, .sl f (qRows q)), (1, i64 x.1), (5, .own 90000 0 x.2.length)] [(90000, { sz := 1, rows := ints (nInts x.2) })])
    (fun x => x.1 < q.length ∧ x.1 + x.2.length ≤ j ∧ wordQ z q q.length x.1 ++ x.2.reverse = wordQ z q q.length j) (fun x => x.1) (j, []) ⟨hj, by simp, by simp⟩ (mkS_le rfl ?_ ?_) ?_
  · simp (maxSteps := 4000000) only [↓reduceIte, Nat.reduceLT, Nat.reduceEqDiff, reduceCtorEq, Nat.reduceAdd, Nat.reduceMul, Int.reduceLE, Int.reduceLT, Int.reduceToNat, Nat.reduceLeDiff, Nat.reduceSub, Int.reduceEq, Nat.reduceBEq, List.replicate, List.set, if_false, if_true, ne_eq, false_implies, implies_true, evA, St.toOwn]
    try rfl
  · simp (maxSteps := 4000000) only [↓reduceIte, Nat.reduceLT, Nat.reduceEqDiff, reduceCtorEq, Nat.reduceAdd, Nat.reduceMul, Int.reduceLE, Int.reduceLT, Int.reduceToNat, Nat.reduceLeDiff, Nat.reduceSub, Int.reduceEq, Nat.reduceBEq, List.replicate, List.set, if_false, if_true, ne_eq, false_implies, implies_true, evA, St.toOwn]
    try rfl
  · rintro ⟨x, acc⟩ ⟨h1, h2, h3⟩
    simp only at h1 h2 h3
    have hg := qRows_get h1 (z, -1, -1)
    rcases Nat.eq_zero_or_pos x with rfl | hp
    · rw [h.word0, List.nil_append] at h3
      rw [h.head] at hg
      have d1 : decide ((-1 : Int) ≥ 0) = false := rfl
      have hR := c_Rev (nInts acc) (by simp [nInts]; omega)
      have hrl : (nInts acc).length = acc.length := by simp [nInts]
      have hrr : (nInts acc).reverse = nInts (wordQ z q q.length j) := by rw [← h3]; simp [nInts]
      have hwl : (wordQ z q q.length j).length = acc.length := by rw [← h3]; simp
      rw [hrr, hrl] at hR
      rw [hwl]
      (repeat (first | refine awp_seq ?_ | refine awp_block ?_ | ((first | refine awp_skip ?_ | refine awp_exit ?_ | refine awp_reg ttok ?_ | (refine awp_draw ttok ?dr_calm ?_; (case dr_calm => decide +kernel)) | refine awp_condM ?_); simp (maxSteps := 4000000) only [↓reduceIte, Nat.reduceLT, Nat.reduceEqDiff, reduceCtorEq, Nat.reduceAdd, Nat.reduceMul, Int.reduceLE, Int.reduceLT, Int.reduceToNat, Nat.reduceLeDiff, Nat.reduceSub, Int.reduceEq, Nat.reduceBEq, List.replicate, List.set, if_false, if_true, ne_eq, false_implies, implies_true, evA, tyA, hg, qRows_len, d1]; (repeat (with_reducible refine And.intro ?_ ?_; focus ((repeat' with_reducible apply And.intro) <;> (first | omega | with_reducible trivial | with_reducible assumption)))); (with_reducible first | refine awp_id ?_ | refine id_call ?_ | refine id_and ?_ | refine id_ex ?_ | refine id_all ?_ | refine id_nat ?_ | refine id_le ?_))))
      refine callVC_M [90000] fnok44 hR (by simp (maxSteps := 4000000) only [↓reduceIte, Nat.reduceLT, Nat.reduceEqDiff, reduceCtorEq, Nat.reduceAdd, Nat.reduceMul, Int.reduceLE, Int.reduceLT, Int.reduceToNat, Nat.reduceLeDiff, Nat.reduceSub, Int.reduceEq, Nat.reduceBEq, List.replicate, List.set, if_false, if_true, ne_eq, false_implies, implies_true, evA]; rfl) (by simp (maxSteps := 4000000) only [↓reduceIte, Nat.reduceLT, Nat.reduceEqDiff, reduceCtorEq, Nat.reduceAdd, Nat.reduceMul, Int.reduceLE, Int.reduceLT, Int.reduceToNat, Nat.reduceLeDiff, Nat.reduceSub, Int.reduceEq, Nat.reduceBEq, List.replicate, List.set, if_false, if_true, ne_eq, false_implies, implies_true, evA]) ?_
      simp (maxSteps := 4000000) only [↓reduceIte, Nat.reduceLT, Nat.reduceEqDiff, reduceCtorEq, Nat.reduceAdd, Nat.reduceMul, Int.reduceLE, Int.reduceLT, Int.reduceToNat, Nat.reduceLeDiff, Nat.reduceSub, Int.reduceEq, Nat.reduceBEq, List.replicate, List.set, if_false, if_true, ne_eq, false_implies, implies_true, evA, tyA]
      (repeat (with_reducible refine And.intro ?_ ?_; focus ((repeat' with_reducible apply And.intro) <;> (first | omega | with_reducible trivial | with_reducible assumption))))
      (repeat (first | refine awp_seq ?_ | refine awp_block ?_ | ((first | refine awp_skip ?_ | refine awp_exit ?_ | refine awp_reg ttok ?_ | (refine awp_draw ttok ?dr_calm ?_; (case dr_calm => decide +kernel)) | refine awp_condM ?_); simp (maxSteps := 4000000) only [↓reduceIte, Nat.reduceLT, Nat.reduceEqDiff, reduceCtorEq, Nat.reduceAdd, Nat.reduceMul, Int.reduceLE, Int.reduceLT, Int.reduceToNat, Nat.reduceLeDiff, Nat.reduceSub, Int.reduceEq, Nat.reduceBEq, List.replicate, List.set, if_false, if_true, ne_eq, false_implies, implies_true, evA, tyA]; (repeat (with_reducible refine And.intro ?_ ?_; focus ((repeat' with_reducible apply And.intro) <;> (first | omega | with_reducible trivial | with_reducible assumption)))); (with_reducible first | refine awp_id ?_ | refine id_call ?_ | refine id_and ?_ | refine id_ex ?_ | refine id_all ?_ | refine id_nat ?_ | refine id_le ?_))))
      exact awp_ret (ends_own (g := 90000) (.inr rfl) (by simp (maxSteps := 4000000) only [↓reduceIte, Nat.reduceLT, Nat.reduceEqDiff, reduceCtorEq, Nat.reduceAdd, Nat.reduceMul, Int.reduceLE, Int.reduceLT, Int.reduceToNat, Nat.reduceLeDiff, Nat.reduceSub, Int.reduceEq, Nat.reduceBEq, List.replicate, List.set, if_false, if_true, ne_eq, false_implies, implies_true, evA]) (by simp (maxSteps := 4000000) only [↓reduceIte, Nat.reduceLT, Nat.reduceEqDiff, reduceCtorEq, Nat.reduceAdd, Nat.reduceMul, Int.reduceLE, Int.reduceLT, Int.reduceToNat, Nat.reduceLeDiff, Nat.reduceSub, Int.reduceEq, Nat.reduceBEq, List.replicate, List.set, if_false, if_true, ne_eq, false_implies, implies_true, evA]) rfl)
    · obtain ⟨u, b, g1, g2, g3, g4⟩ := h.wordS hp h1
      rw [g1] at hg
      have d1 : decide ((u : Int) ≥ 0) = true := by simp
      have hap : ints (nInts acc) ++ [[i64 (b : Int)]] = ints (nInts (acc ++ [b])) := by simp [ints, nInts]
      have hrl : (nInts acc).length = acc.length := by simp [nInts]
      have htk : List.take acc.length (nInts acc) = nInts acc := List.take_of_length_le (by omega)
      have r1 : ∀ d : D, (∀ row ∈ [[d]], row.length = 1) = True := fun d => by simp
      have hal : (acc ++ [b]).length = acc.length + 1 := by simp
      (repeat (first | refine awp_seq ?_ | refine awp_block ?_ | ((first | refine awp_skip ?_ | refine awp_exit ?_ | refine awp_reg ttok ?_ | (refine awp_draw ttok ?dr_calm ?_; (case dr_calm => decide +kernel)) | refine awp_condM ?_); simp (maxSteps := 4000000) only [↓reduceIte, Nat.reduceLT, Nat.reduceEqDiff, reduceCtorEq, Nat.reduceAdd, Nat.reduceMul, Int.reduceLE, Int.reduceLT, Int.reduceToNat, Nat.reduceLeDiff, Nat.reduceSub, Int.reduceEq, Nat.reduceBEq, List.replicate, List.set, if_false, if_true, ne_eq, false_implies, implies_true, evA, tyA, hg, qRows_len, d1, ints_len, hrl, ints_take, htk, hap, r1]; (repeat (with_reducible refine And.intro ?_ ?_; focus ((repeat' with_reducible apply And.intro) <;> (first | omega | with_reducible trivial | with_reducible assumption)))); (with_reducible first | refine awp_id ?_ | refine id_call ?_ | refine id_and ?_ | refine id_ex ?_ | refine id_all ?_ | refine id_nat ?_ | refine id_le ?_))))
      refine ⟨(u, acc ++ [b]), ⟨by simp only; omega, by simp only [hal]; omega, ?_⟩, by simp only; omega, mkS_le rfl ?_ ?_⟩
      · rw [← h3, g4]; simp
      · simp (maxSteps := 4000000) only [↓reduceIte, Nat.reduceLT, Nat.reduceEqDiff, reduceCtorEq, Nat.reduceAdd, Nat.reduceMul, Int.reduceLE, Int.reduceLT, Int.reduceToNat, Nat.reduceLeDiff, Nat.reduceSub, Int.reduceEq, Nat.reduceBEq, List.replicate, List.set, if_false, if_true, ne_eq, false_implies, implies_true, evA, hal]
      · simp (maxSteps := 4000000) only [↓reduceIte, Nat.reduceLT, Nat.reduceEqDiff, reduceCtorEq, Nat.reduceAdd, Nat.reduceMul, Int.reduceLE, Int.reduceLT, Int.reduceToNat, Nat.reduceLeDiff, Nat.reduceSub, Int.reduceEq, Nat.reduceBEq, List.replicate, List.set, if_false, if_true, ne_eq, false_implies, implies_true, evA, hap, ints_take, htk]

end Go.Proofs.Ytcfnbofapjgepaa
