/-
  The contract of snap.Put, where it writes.
-/
import Derived.Test.YtmfonlkigjpjcaaSn3
namespace Go.Proofs.Ytmfonlkigjpjcaa
open Go.Ab
set_option linter.unusedSimpArgs false
set_option linter.unusedVariables false

theorem sNums_ct {l : List (Int × List Int)} {k : List Int} (hS : ∀ j, j < l.length → sOk (l.getD j (0, [])) (k.getD j 0) = true) {z a b : Int} : ∀ j, j ≤ l.length → ([z, a, b, (l.length : Int)] ++ sNums l k j).length ≤ 4 + 11 * j := by
  intro j
  induction j with
  | zero => intro _; simp [sNums]
  | succ j ih =>
    intro hj
    have h1 := ih (by omega)
    have h2 := sOk_true (hS j (by omega))
    rw [sNums_succ]
    simp only [sEnc, List.length_append, List.length_cons, List.length_nil] at h1 ⊢
    omega
theorem sNums_bd {l : List (Int × List Int)} {k : List Int} (hS : ∀ j, j < l.length → sOk (l.getD j (0, [])) (k.getD j 0) = true) {z a b : Int} (hz : z ≤ 2147483647) (ha : a ≤ 2147483647) (hb : b ≤ 2147483647) (hl : l.length ≤ 16) : ∀ j, j ≤ l.length → ∀ n ∈ [z, a, b, (l.length : Int)] ++ sNums l k j, n ≤ 2147483647 := by
  intro j
  induction j with
  | zero => intro _ n hn; simp [sNums] at hn; omega
  | succ j ih =>
    intro hj n hn
    have h1 := ih (by omega) n
    have h2 := sOk_true (hS j (by omega))
    rw [sNums_succ, ← List.append_assoc] at hn
    rcases List.mem_append.1 hn with h | h
    · exact h1 h
    · simp only [sEnc, List.mem_cons, List.mem_append, List.not_mem_nil, or_false] at h
      rcases h with h | h | h | h
      · omega
      · omega
      · exact (h2.2.2.2.2.2.2 n h).2
      · omega

set_option maxRecDepth 20000 in
set_option maxHeartbeats 16000000 in
theorem c_sPut (z a b : Int) (f g : Bool) (l : List (Int × List Int)) (k : List Int) (hm : mayB a b l k = true) (hz0 : 0 ≤ z) (hz : z ≤ 2147483647) :
    Contract Try.prog 18 [i64 z, .agg [i64 a, i64 b, .sl f (srs l), .sl g (ints k)]] (.own 0 0 (cps (snapNums z a b l k)).length) [{ sz := 1, rows := bys (cps (snapNums z a b l k)) }] := by
  refine contract_of_awp (rs := [4]) Try.func18 rfl Try.ntmps18 (by simp) rfl fun E => ?_
  obtain ⟨hlk, h16, hA, hB, hS⟩ := mayB_true hm
  have ha := (okI_iff a).1 hA
  have hb := (okI_iff b).1 hB
  have kt : (!true) = false := rfl
  have k1 : decide (z < 0) = false := by simp; omega
  have k2 : decide (z > 2147483647) = false := by simp; omega
  (repeat (first | refine awp_seq ?_ | refine awp_block ?_ | ((first | refine awp_skip ?_ | refine awp_exit ?_ | refine awp_reg ttok ?_ | (refine awp_draw ttok ?dr_calm ?_; (case dr_calm => decide +kernel)) | refine awp_condM ?_); simp (maxSteps := 4000000) only [↓reduceIte, Nat.reduceLT, Nat.reduceEqDiff, reduceCtorEq, Nat.reduceAdd, Nat.reduceMul, Int.reduceLE, Int.reduceLT, Int.reduceToNat, Nat.reduceLeDiff, Nat.reduceSub, Int.reduceEq, Nat.reduceBEq, List.replicate, List.set, if_false, if_true, ne_eq, false_implies, implies_true, evA, tyA]; (repeat (with_reducible refine And.intro ?_ ?_; focus ((repeat' with_reducible apply And.intro) <;> (first | omega | with_reducible trivial | with_reducible assumption)))); (with_reducible first | refine awp_id ?_ | refine id_call ?_ | refine id_and ?_ | refine id_ex ?_ | refine id_all ?_ | refine id_le ?_))))
  refine callVC_scal fnok29 (c_May a b f g l k) rfl ?_
  simp (maxSteps := 4000000) only [↓reduceIte, Nat.reduceLT, Nat.reduceEqDiff, reduceCtorEq, Nat.reduceAdd, Nat.reduceMul, Int.reduceLE, Int.reduceLT, Int.reduceToNat, Nat.reduceLeDiff, Nat.reduceSub, Int.reduceEq, Nat.reduceBEq, List.replicate, List.set, if_false, if_true, ne_eq, false_implies, implies_true, evA, tyA, hm, kt, k1, k2]
  (repeat (with_reducible refine And.intro ?_ ?_; focus ((repeat' with_reducible apply And.intro) <;> (first | omega | with_reducible trivial | with_reducible assumption))))
  (repeat (first | refine awp_seq ?_ | refine awp_block ?_ | ((first | refine awp_skip ?_ | refine awp_exit ?_ | refine awp_reg ttok ?_ | (refine awp_draw ttok ?dr_calm ?_; (case dr_calm => decide +kernel)) | refine awp_condM ?_); simp (maxSteps := 4000000) only [↓reduceIte, Nat.reduceLT, Nat.reduceEqDiff, reduceCtorEq, Nat.reduceAdd, Nat.reduceMul, Int.reduceLE, Int.reduceLT, Int.reduceToNat, Nat.reduceLeDiff, Nat.reduceSub, Int.reduceEq, Nat.reduceBEq, List.replicate, List.set, if_false, if_true, ne_eq, false_implies, implies_true, evA, tyA, kt, k1, k2, srs_len]; (repeat (with_reducible refine And.intro ?_ ?_; focus ((repeat' with_reducible apply And.intro) <;> (first | omega | with_reducible trivial | with_reducible assumption)))); (with_reducible first | refine awp_id ?_ | refine id_call ?_ | refine id_and ?_ | refine id_ex ?_ | refine id_all ?_ | refine id_le ?_))))
  refine awp_own_nil 5 9000 1 (by simp (maxSteps := 4000000) only [↓reduceIte, Nat.reduceLT, Nat.reduceEqDiff, reduceCtorEq, Nat.reduceAdd, Nat.reduceMul, Int.reduceLE, Int.reduceLT, Int.reduceToNat, Nat.reduceLeDiff, Nat.reduceSub, Int.reduceEq, Nat.reduceBEq, List.replicate, List.set, if_false, if_true, ne_eq, false_implies, implies_true, evA]) (by decide) ?_
  have hall : ∀ j, [z, a, b, (l.length : Int)].getD j 0 ≤ 2147483647 := by
    intro j
    match j with
    | 0 => simp; omega
    | 1 => simp; omega
    | 2 => simp; omega
    | 3 => simp; omega
    | n + 4 => simp
  have hcl : ∀ i, i ≤ 4 → (cps ([z, a, b, (l.length : Int)].take i)).length ≤ 20 := fun i hi => by
    have := cps_len ([z, a, b, (l.length : Int)].take i) (fun n hn => by
      have := List.mem_of_mem_take hn
      simp at this
      omega)
    simp at this; omega
  refine awp_loop (X := Nat) (fun i => mkS 75 [(3, .ptr 1000 0 0), (5, .own 9000 0 (cps ([z, a, b, (l.length : Int)].take i)).length), (31, .agg [i64 z, i64 a, i64 b, i64 l.length]), (32, i64 i)] [(1000, { sz := 4, rows := [[i64 a, i64 b, .sl f (srs l), .sl g (ints k)]], flat := false }), (9000, { sz := 1, rows := bys (cps ([z, a, b, (l.length : Int)].take i)) })]) (fun i => i ≤ 4) (fun i => 4 - i) 0 (by omega) (mkS_le rfl ?_ ?_) ?_
  · simp (maxSteps := 4000000) only [↓reduceIte, Nat.reduceLT, Nat.reduceEqDiff, reduceCtorEq, Nat.reduceAdd, Nat.reduceMul, Int.reduceLE, Int.reduceLT, Int.reduceToNat, Nat.reduceLeDiff, Nat.reduceSub, Int.reduceEq, Nat.reduceBEq, List.replicate, List.set, if_false, if_true, ne_eq, false_implies, implies_true, evA, St.toOwn, cps, List.flatMap_nil]
    try rfl
  · simp (maxSteps := 4000000) only [↓reduceIte, Nat.reduceLT, Nat.reduceEqDiff, reduceCtorEq, Nat.reduceAdd, Nat.reduceMul, Int.reduceLE, Int.reduceLT, Int.reduceToNat, Nat.reduceLeDiff, Nat.reduceSub, Int.reduceEq, Nat.reduceBEq, List.replicate, List.set, if_false, if_true, ne_eq, false_implies, implies_true, evA, St.toOwn, cps, List.flatMap_nil]
    try rfl
  intro i hi
  have hlen := hcl i hi
  by_cases h4 : i < 4
  · have hd : decide ((i : Int) < 4) = true := by simp; omega
    obtain ⟨i', hi'⟩ : ∃ i', i' = i + 1 := ⟨_, rfl⟩
    have hwi : IntKind.i64.wrap ((i : Int) + 1) = (i' : Int) := by rw [hi']; exact i64_in (by omega) (by omega)
    have hp : cps ([z, a, b, (l.length : Int)].take i) ++ codePut ([z, a, b, (l.length : Int)].getD i 0).toNat = cps ([z, a, b, (l.length : Int)].take i') := by
      rw [cps_snoc, hi', List.take_succ_eq_append_getElem (by simpa using h4)]
      simp [List.getD, List.getElem?_eq_getElem (show i < [z, a, b, (l.length : Int)].length by simpa using h4)]
    have hx := hall i
    have hc := c_cputM (cps ([z, a, b, (l.length : Int)].take i)) ([z, a, b, (l.length : Int)].getD i 0) (by omega) (by omega)
    rw [hp] at hc
    have h0123 : i = 0 ∨ i = 1 ∨ i = 2 ∨ i = 3 := by omega
    rcases h0123 with rfl | rfl | rfl | rfl
    all_goals
      simp only [List.getD_cons_zero, List.getD_cons_succ] at hc
      (repeat (first | refine awp_seq ?_ | refine awp_block ?_ | ((first | refine awp_skip ?_ | refine awp_exit ?_ | refine awp_reg ttok ?_ | (refine awp_draw ttok ?dr_calm ?_; (case dr_calm => decide +kernel)) | refine awp_condM ?_); simp (maxSteps := 4000000) only [↓reduceIte, Nat.reduceLT, Nat.reduceEqDiff, reduceCtorEq, Nat.reduceAdd, Nat.reduceMul, Int.reduceLE, Int.reduceLT, Int.reduceToNat, Nat.reduceLeDiff, Nat.reduceSub, Int.reduceEq, Nat.reduceBEq, List.replicate, List.set, if_false, if_true, ne_eq, false_implies, implies_true, evA, tyA, hd]; (repeat (with_reducible refine And.intro ?_ ?_; focus ((repeat' with_reducible apply And.intro) <;> (first | omega | with_reducible trivial | with_reducible assumption)))); (with_reducible first | refine awp_id ?_ | refine id_call ?_ | refine id_and ?_ | refine id_ex ?_ | refine id_all ?_ | refine id_le ?_))))
      refine callVC_M [9000] fnok28 hc (by simp (maxSteps := 4000000) only [↓reduceIte, Nat.reduceLT, Nat.reduceEqDiff, reduceCtorEq, Nat.reduceAdd, Nat.reduceMul, Int.reduceLE, Int.reduceLT, Int.reduceToNat, Nat.reduceLeDiff, Nat.reduceSub, Int.reduceEq, Nat.reduceBEq, List.replicate, List.set, if_false, if_true, ne_eq, false_implies, implies_true, evA]; rfl) (by simp (maxSteps := 4000000) only [↓reduceIte, Nat.reduceLT, Nat.reduceEqDiff, reduceCtorEq, Nat.reduceAdd, Nat.reduceMul, Int.reduceLE, Int.reduceLT, Int.reduceToNat, Nat.reduceLeDiff, Nat.reduceSub, Int.reduceEq, Nat.reduceBEq, List.replicate, List.set, if_false, if_true, ne_eq, false_implies, implies_true, evA]) ?_
      simp (maxSteps := 4000000) only [↓reduceIte, Nat.reduceLT, Nat.reduceEqDiff, reduceCtorEq, Nat.reduceAdd, Nat.reduceMul, Int.reduceLE, Int.reduceLT, Int.reduceToNat, Nat.reduceLeDiff, Nat.reduceSub, Int.reduceEq, Nat.reduceBEq, List.replicate, List.set, if_false, if_true, ne_eq, false_implies, implies_true, evA, tyA]
      (repeat (with_reducible refine And.intro ?_ ?_; focus ((repeat' with_reducible apply And.intro) <;> (first | omega | with_reducible trivial | with_reducible assumption))))
      refine awp_swap 9000 108003 ?_
      (repeat (first | refine awp_seq ?_ | refine awp_block ?_ | ((first | refine awp_skip ?_ | refine awp_exit ?_ | refine awp_reg ttok ?_ | (refine awp_draw ttok ?dr_calm ?_; (case dr_calm => decide +kernel)) | refine awp_condM ?_); simp (maxSteps := 4000000) only [↓reduceIte, Nat.reduceLT, Nat.reduceEqDiff, reduceCtorEq, Nat.reduceAdd, Nat.reduceMul, Int.reduceLE, Int.reduceLT, Int.reduceToNat, Nat.reduceLeDiff, Nat.reduceSub, Int.reduceEq, Nat.reduceBEq, List.replicate, List.set, if_false, if_true, ne_eq, false_implies, implies_true, evA, tyA, hwi]; (repeat (with_reducible refine And.intro ?_ ?_; focus ((repeat' with_reducible apply And.intro) <;> (first | omega | with_reducible trivial | with_reducible assumption)))); (with_reducible first | refine awp_id ?_ | refine id_call ?_ | refine id_and ?_ | refine id_ex ?_ | refine id_all ?_ | refine id_le ?_))))
      refine ⟨i', by omega, by omega, mkS_le rfl ?_ ?_⟩
      · simp (maxSteps := 4000000) only [↓reduceIte, Nat.reduceLT, Nat.reduceEqDiff, reduceCtorEq, Nat.reduceAdd, Nat.reduceMul, Int.reduceLE, Int.reduceLT, Int.reduceToNat, Nat.reduceLeDiff, Nat.reduceSub, Int.reduceEq, Nat.reduceBEq, List.replicate, List.set, if_false, if_true, ne_eq, false_implies, implies_true, evA]
      · simp (maxSteps := 4000000) only [↓reduceIte, Nat.reduceLT, Nat.reduceEqDiff, reduceCtorEq, Nat.reduceAdd, Nat.reduceMul, Int.reduceLE, Int.reduceLT, Int.reduceToNat, Nat.reduceLeDiff, Nat.reduceSub, Int.reduceEq, Nat.reduceBEq, List.replicate, List.set, if_false, if_true, ne_eq, false_implies, implies_true, evA]
  · have hd : decide ((i : Int) < 4) = false := by simp; omega
    obtain rfl : i = 4 := by omega
    have h44 : List.take 4 [z, a, b, (l.length : Int)] = [z, a, b, (l.length : Int)] := rfl
    rw [h44]
    (repeat (first | refine awp_seq ?_ | refine awp_block ?_ | ((first | refine awp_skip ?_ | refine awp_exit ?_ | refine awp_reg ttok ?_ | (refine awp_draw ttok ?dr_calm ?_; (case dr_calm => decide +kernel)) | refine awp_condM ?_); simp (maxSteps := 4000000) only [↓reduceIte, Nat.reduceLT, Nat.reduceEqDiff, reduceCtorEq, Nat.reduceAdd, Nat.reduceMul, Int.reduceLE, Int.reduceLT, Int.reduceToNat, Nat.reduceLeDiff, Nat.reduceSub, Int.reduceEq, Nat.reduceBEq, List.replicate, List.set, if_false, if_true, ne_eq, false_implies, implies_true, evA, tyA, hd, srs_len]; (repeat (with_reducible refine And.intro ?_ ?_; focus ((repeat' with_reducible apply And.intro) <;> (first | omega | with_reducible trivial | with_reducible assumption)))); (with_reducible first | refine awp_id ?_ | refine id_call ?_ | refine id_and ?_ | refine id_ex ?_ | refine id_all ?_ | refine id_le ?_))))
    have hbd : ∀ j, j ≤ l.length → ∀ n ∈ [z, a, b, (l.length : Int)] ++ sNums l k j, n ≤ 2147483647 := sNums_bd hS hz ha.2 hb.2 h16
    have hct : ∀ j, j ≤ l.length → ([z, a, b, (l.length : Int)] ++ sNums l k j).length ≤ 4 + 11 * j := sNums_ct hS
    refine awp_loop (X := Nat) (fun j => mkS 75 [(3, .ptr 1000 0 0), (5, .own 9000 0 (cps ([z, a, b, (l.length : Int)] ++ sNums l k j)).length), (40, .sl f (srs l)), (41, i64 l.length), (42, i64 j)] [(1000, { sz := 4, rows := [[i64 a, i64 b, .sl f (srs l), .sl g (ints k)]], flat := false }), (9000, { sz := 1, rows := bys (cps ([z, a, b, (l.length : Int)] ++ sNums l k j)) })]) (fun j => j ≤ l.length) (fun j => l.length - j) 0 (by omega) (mkS_le rfl ?_ ?_) ?_
    · simp (maxSteps := 4000000) only [↓reduceIte, Nat.reduceLT, Nat.reduceEqDiff, reduceCtorEq, Nat.reduceAdd, Nat.reduceMul, Int.reduceLE, Int.reduceLT, Int.reduceToNat, Nat.reduceLeDiff, Nat.reduceSub, Int.reduceEq, Nat.reduceBEq, List.replicate, List.set, if_false, if_true, ne_eq, false_implies, implies_true, evA, sNums, List.range_zero, List.flatMap_nil]
      try rfl
    · simp (maxSteps := 4000000) only [↓reduceIte, Nat.reduceLT, Nat.reduceEqDiff, reduceCtorEq, Nat.reduceAdd, Nat.reduceMul, Int.reduceLE, Int.reduceLT, Int.reduceToNat, Nat.reduceLeDiff, Nat.reduceSub, Int.reduceEq, Nat.reduceBEq, List.replicate, List.set, if_false, if_true, ne_eq, false_implies, implies_true, evA, sNums, List.range_zero, List.flatMap_nil]
      try rfl
    intro j hj
    have hpre := cps_len _ (hbd j hj)
    have hprec := hct j hj
    by_cases hlt : j < l.length
    · have d1 : decide ((j : Int) < (l.length : Int)) = true := by simpa using hlt
      have gi := srs_get hlt
      have gk := ints_get (l := k) (i := j) (by omega)
      have hsj := sOk_true (hS j hlt)
      have hns := sNums_succ l k j
      generalize l.getD j (0, []) = x at *
      generalize k.getD j 0 = q at *
      generalize hN : [z, a, b, (l.length : Int)] ++ sNums l k j = N at *
      (repeat (first | refine awp_seq ?_ | refine awp_block ?_ | ((first | refine awp_skip ?_ | refine awp_exit ?_ | refine awp_reg ttok ?_ | (refine awp_draw ttok ?dr_calm ?_; (case dr_calm => decide +kernel)) | refine awp_condM ?_); simp (maxSteps := 4000000) only [↓reduceIte, Nat.reduceLT, Nat.reduceEqDiff, reduceCtorEq, Nat.reduceAdd, Nat.reduceMul, Int.reduceLE, Int.reduceLT, Int.reduceToNat, Nat.reduceLeDiff, Nat.reduceSub, Int.reduceEq, Nat.reduceBEq, List.replicate, List.set, if_false, if_true, ne_eq, false_implies, implies_true, evA, tyA, d1, gi, srs_len]; (repeat (with_reducible refine And.intro ?_ ?_; focus ((repeat' with_reducible apply And.intro) <;> (first | omega | with_reducible trivial | with_reducible assumption)))); (with_reducible first | refine awp_id ?_ | refine id_call ?_ | refine id_and ?_ | refine id_ex ?_ | refine id_all ?_ | refine id_le ?_))))
      have hc1 := c_cputM (cps N) x.1 (by omega) (by omega)
      rw [cps_snoc] at hc1
      have hl1 : (cps (N ++ [x.1])).length ≤ 1000000 := by
        have := cps_len (N ++ [x.1]) (fun n hn => by
          rcases List.mem_append.1 hn with h | h
          · rw [← hN] at h; exact hbd j hj n h
          · rw [List.mem_singleton.1 h]; omega)
        simp only [List.length_append, List.length_cons, List.length_nil] at this; omega
      have hc2 := c_cputM (cps (N ++ [x.1])) (x.2.length : Int) hl1 (by omega)
      rw [cps_snoc] at hc2
      refine awp_drawG ttok ((0, none) :: (1, none) :: (2, none) :: (4, none) :: (5, none) :: (6, none) :: (3, some [4, 5, 6]) :: (7, some []) :: (8, none) :: []) ([]) ([]) (by decide +kernel) fun O hO => ?_; simp only [OpsAre, Nat.reduceAdd, and_true, List.toList_toArray, List.append_eq, List.cons_append, List.nil_append] at hO; simp (maxSteps := 4000000) only [↓reduceIte, Nat.reduceLT, Nat.reduceEqDiff, reduceCtorEq, Nat.reduceAdd, Nat.reduceMul, Int.reduceLE, Int.reduceLT, Int.reduceToNat, Nat.reduceLeDiff, Nat.reduceSub, Int.reduceEq, Nat.reduceBEq, List.replicate, List.set, if_false, if_true, ne_eq, false_implies, implies_true, evA, tyA, hO, ]; (repeat (with_reducible refine And.intro ?_ ?_; focus ((repeat' with_reducible apply And.intro) <;> (first | omega | with_reducible trivial | with_reducible assumption))))
      refine callVC_M [9000] fnok28 hc1 (by simp (maxSteps := 4000000) only [↓reduceIte, Nat.reduceLT, Nat.reduceEqDiff, reduceCtorEq, Nat.reduceAdd, Nat.reduceMul, Int.reduceLE, Int.reduceLT, Int.reduceToNat, Nat.reduceLeDiff, Nat.reduceSub, Int.reduceEq, Nat.reduceBEq, List.replicate, List.set, if_false, if_true, ne_eq, false_implies, implies_true, evA]; rfl) (by simp (maxSteps := 4000000) only [↓reduceIte, Nat.reduceLT, Nat.reduceEqDiff, reduceCtorEq, Nat.reduceAdd, Nat.reduceMul, Int.reduceLE, Int.reduceLT, Int.reduceToNat, Nat.reduceLeDiff, Nat.reduceSub, Int.reduceEq, Nat.reduceBEq, List.replicate, List.set, if_false, if_true, ne_eq, false_implies, implies_true, evA]) ?_
      simp (maxSteps := 4000000) only [↓reduceIte, Nat.reduceLT, Nat.reduceEqDiff, reduceCtorEq, Nat.reduceAdd, Nat.reduceMul, Int.reduceLE, Int.reduceLT, Int.reduceToNat, Nat.reduceLeDiff, Nat.reduceSub, Int.reduceEq, Nat.reduceBEq, List.replicate, List.set, if_false, if_true, ne_eq, false_implies, implies_true, evA, tyA, hO]
      (repeat (with_reducible refine And.intro ?_ ?_; focus ((repeat' with_reducible apply And.intro) <;> (first | omega | with_reducible trivial | with_reducible assumption))))
      refine callVC_M [113004] fnok28 hc2 (by simp (maxSteps := 4000000) only [↓reduceIte, Nat.reduceLT, Nat.reduceEqDiff, reduceCtorEq, Nat.reduceAdd, Nat.reduceMul, Int.reduceLE, Int.reduceLT, Int.reduceToNat, Nat.reduceLeDiff, Nat.reduceSub, Int.reduceEq, Nat.reduceBEq, List.replicate, List.set, if_false, if_true, ne_eq, false_implies, implies_true, evA]; rfl) (by simp (maxSteps := 4000000) only [↓reduceIte, Nat.reduceLT, Nat.reduceEqDiff, reduceCtorEq, Nat.reduceAdd, Nat.reduceMul, Int.reduceLE, Int.reduceLT, Int.reduceToNat, Nat.reduceLeDiff, Nat.reduceSub, Int.reduceEq, Nat.reduceBEq, List.replicate, List.set, if_false, if_true, ne_eq, false_implies, implies_true, evA]) ?_
      simp (maxSteps := 4000000) only [↓reduceIte, Nat.reduceLT, Nat.reduceEqDiff, reduceCtorEq, Nat.reduceAdd, Nat.reduceMul, Int.reduceLE, Int.reduceLT, Int.reduceToNat, Nat.reduceLeDiff, Nat.reduceSub, Int.reduceEq, Nat.reduceBEq, List.replicate, List.set, if_false, if_true, ne_eq, false_implies, implies_true, evA, tyA, hO]
      (repeat (with_reducible refine And.intro ?_ ?_; focus ((repeat' with_reducible apply And.intro) <;> (first | omega | with_reducible trivial | with_reducible assumption))))
      clear hO
      refine awp_swap 9000 113008 ?_
      (repeat (first | refine awp_seq ?_ | refine awp_block ?_ | ((first | refine awp_skip ?_ | refine awp_exit ?_ | refine awp_reg ttok ?_ | (refine awp_draw ttok ?dr_calm ?_; (case dr_calm => decide +kernel)) | refine awp_condM ?_); simp (maxSteps := 4000000) only [↓reduceIte, Nat.reduceLT, Nat.reduceEqDiff, reduceCtorEq, Nat.reduceAdd, Nat.reduceMul, Int.reduceLE, Int.reduceLT, Int.reduceToNat, Nat.reduceLeDiff, Nat.reduceSub, Int.reduceEq, Nat.reduceBEq, List.replicate, List.set, if_false, if_true, ne_eq, false_implies, implies_true, evA, tyA]; (repeat (with_reducible refine And.intro ?_ ?_; focus ((repeat' with_reducible apply And.intro) <;> (first | omega | with_reducible trivial | with_reducible assumption)))); (with_reducible first | refine awp_id ?_ | refine id_call ?_ | refine id_and ?_ | refine id_ex ?_ | refine id_all ?_ | refine id_le ?_))))
      refine awp_at 75 [(3, _), (5, _), (8, _), (40, _), (41, _), (42, _), (56, _), (57, _), (58, _)] [(1000, _), (9000, _)] rfl (by (first | simp (maxSteps := 4000000) only [↓reduceIte, Nat.reduceLT, Nat.reduceEqDiff, reduceCtorEq, Nat.reduceAdd, Nat.reduceMul, Int.reduceLE, Int.reduceLT, Int.reduceToNat, Nat.reduceLeDiff, Nat.reduceSub, Int.reduceEq, Nat.reduceBEq, List.replicate, List.set, if_false, if_true, ne_eq, false_implies, implies_true, evA] | skip); exact ⟨rfl, rfl, rfl, rfl, rfl, rfl, rfl, rfl, rfl⟩) (by (first | simp (maxSteps := 4000000) only [↓reduceIte, Nat.reduceLT, Nat.reduceEqDiff, reduceCtorEq, Nat.reduceAdd, Nat.reduceMul, Int.reduceLE, Int.reduceLT, Int.reduceToNat, Nat.reduceLeDiff, Nat.reduceSub, Int.reduceEq, Nat.reduceBEq, List.replicate, List.set, if_false, if_true, ne_eq, false_implies, implies_true, evA] | skip); exact ⟨rfl, rfl⟩) ?_
      have hhx : ∀ n ∈ x.2, n ≤ 2147483647 := fun n hn => (hsj.2.2.2.2.2.2 n hn).2
      have hbN : ∀ n ∈ N, n ≤ 2147483647 := fun n hn => by rw [← hN] at hn; exact hbd j hj n hn
      have hlen2 : ∀ p, p ≤ x.2.length → (cps (N ++ [x.1] ++ [(x.2.length : Int)] ++ x.2.take p)).length ≤ 100000 := fun p hp => by
        have := cps_len (N ++ [x.1] ++ [(x.2.length : Int)] ++ x.2.take p) (fun n hn => by
          rcases List.mem_append.1 hn with h | h
          · rcases List.mem_append.1 h with h | h
            · rcases List.mem_append.1 h with h | h
              · exact hbN n h
              · rw [List.mem_singleton.1 h]; omega
            · rw [List.mem_singleton.1 h]; omega
          · exact hhx n (List.mem_of_mem_take h))
        simp only [List.length_append, List.length_cons, List.length_nil, List.length_take] at this; omega
      refine awp_loop (X := Nat) (fun p => mkS 75 [(3, .ptr 1000 0 0), (5, .own 9000 0 (cps (N ++ [x.1] ++ [(x.2.length : Int)] ++ x.2.take p)).length), (8, i64 j), (40, .sl f (srs l)), (41, i64 l.length), (42, i64 j), (56, .sl false (ints x.2)), (57, i64 x.2.length), (58, i64 p)] [(1000, { sz := 4, rows := [[i64 a, i64 b, .sl f (srs l), .sl g (ints k)]], flat := false }), (9000, { sz := 1, rows := bys (cps (N ++ [x.1] ++ [(x.2.length : Int)] ++ x.2.take p)) })]) (fun p => p ≤ x.2.length) (fun p => x.2.length - p) 0 (by omega) (mkS_le rfl ?_ ?_) ?_
      · simp (maxSteps := 4000000) only [↓reduceIte, Nat.reduceLT, Nat.reduceEqDiff, reduceCtorEq, Nat.reduceAdd, Nat.reduceMul, Int.reduceLE, Int.reduceLT, Int.reduceToNat, Nat.reduceLeDiff, Nat.reduceSub, Int.reduceEq, Nat.reduceBEq, List.replicate, List.set, if_false, if_true, ne_eq, false_implies, implies_true, evA]
        try rfl
      · simp (maxSteps := 4000000) only [↓reduceIte, Nat.reduceLT, Nat.reduceEqDiff, reduceCtorEq, Nat.reduceAdd, Nat.reduceMul, Int.reduceLE, Int.reduceLT, Int.reduceToNat, Nat.reduceLeDiff, Nat.reduceSub, Int.reduceEq, Nat.reduceBEq, List.replicate, List.set, if_false, if_true, ne_eq, false_implies, implies_true, evA]
        try rfl
      intro p hp
      by_cases hpl : p < x.2.length
      · have d2 : decide ((p : Int) < (x.2.length : Int)) = true := by simpa using hpl
        have gp := ints_get hpl
        have hpp := hlen2 p hp
        have hw : IntKind.i64.wrap ((p : Int) + 1) = ((p + 1 : Nat) : Int) := i64_in (by omega) (by omega)
        have htk : x.2.take p ++ [x.2.getD p 0] = x.2.take (p + 1) := by
          rw [List.take_succ_eq_append_getElem hpl]; simp [List.getD, List.getElem?_eq_getElem hpl]
        have hy := hhx (x.2.getD p 0) (by simp [List.getD, List.getElem?_eq_getElem hpl])
        have hc3 := c_cputM (cps (N ++ [x.1] ++ [(x.2.length : Int)] ++ x.2.take p)) (x.2.getD p 0) (by omega) (by omega)
        rw [cps_snoc, List.append_assoc _ (x.2.take p), htk] at hc3
        generalize x.2.getD p 0 = y at *
        (repeat (first | refine awp_seq ?_ | refine awp_block ?_ | ((first | refine awp_skip ?_ | refine awp_exit ?_ | refine awp_reg ttok ?_ | (refine awp_draw ttok ?dr_calm ?_; (case dr_calm => decide +kernel)) | refine awp_condM ?_); simp (maxSteps := 4000000) only [↓reduceIte, Nat.reduceLT, Nat.reduceEqDiff, reduceCtorEq, Nat.reduceAdd, Nat.reduceMul, Int.reduceLE, Int.reduceLT, Int.reduceToNat, Nat.reduceLeDiff, Nat.reduceSub, Int.reduceEq, Nat.reduceBEq, List.replicate, List.set, if_false, if_true, ne_eq, false_implies, implies_true, evA, tyA, d2, gp]; (repeat (with_reducible refine And.intro ?_ ?_; focus ((repeat' with_reducible apply And.intro) <;> (first | omega | with_reducible trivial | with_reducible assumption)))); (with_reducible first | refine awp_id ?_ | refine id_call ?_ | refine id_and ?_ | refine id_ex ?_ | refine id_all ?_ | refine id_le ?_))))
        refine callVC_M [9000] fnok28 hc3 (by simp (maxSteps := 4000000) only [↓reduceIte, Nat.reduceLT, Nat.reduceEqDiff, reduceCtorEq, Nat.reduceAdd, Nat.reduceMul, Int.reduceLE, Int.reduceLT, Int.reduceToNat, Nat.reduceLeDiff, Nat.reduceSub, Int.reduceEq, Nat.reduceBEq, List.replicate, List.set, if_false, if_true, ne_eq, false_implies, implies_true, evA]; rfl) (by simp (maxSteps := 4000000) only [↓reduceIte, Nat.reduceLT, Nat.reduceEqDiff, reduceCtorEq, Nat.reduceAdd, Nat.reduceMul, Int.reduceLE, Int.reduceLT, Int.reduceToNat, Nat.reduceLeDiff, Nat.reduceSub, Int.reduceEq, Nat.reduceBEq, List.replicate, List.set, if_false, if_true, ne_eq, false_implies, implies_true, evA]) ?_
        simp (maxSteps := 4000000) only [↓reduceIte, Nat.reduceLT, Nat.reduceEqDiff, reduceCtorEq, Nat.reduceAdd, Nat.reduceMul, Int.reduceLE, Int.reduceLT, Int.reduceToNat, Nat.reduceLeDiff, Nat.reduceSub, Int.reduceEq, Nat.reduceBEq, List.replicate, List.set, if_false, if_true, ne_eq, false_implies, implies_true, evA, tyA]
        (repeat (with_reducible refine And.intro ?_ ?_; focus ((repeat' with_reducible apply And.intro) <;> (first | omega | with_reducible trivial | with_reducible assumption))))
        refine awp_swap 9000 117003 ?_
        (repeat (first | refine awp_seq ?_ | refine awp_block ?_ | ((first | refine awp_skip ?_ | refine awp_exit ?_ | refine awp_reg ttok ?_ | (refine awp_draw ttok ?dr_calm ?_; (case dr_calm => decide +kernel)) | refine awp_condM ?_); simp (maxSteps := 4000000) only [↓reduceIte, Nat.reduceLT, Nat.reduceEqDiff, reduceCtorEq, Nat.reduceAdd, Nat.reduceMul, Int.reduceLE, Int.reduceLT, Int.reduceToNat, Nat.reduceLeDiff, Nat.reduceSub, Int.reduceEq, Nat.reduceBEq, List.replicate, List.set, if_false, if_true, ne_eq, false_implies, implies_true, evA, tyA, hw]; (repeat (with_reducible refine And.intro ?_ ?_; focus ((repeat' with_reducible apply And.intro) <;> (first | omega | with_reducible trivial | with_reducible assumption)))); (with_reducible first | refine awp_id ?_ | refine id_call ?_ | refine id_and ?_ | refine id_ex ?_ | refine id_all ?_ | refine id_le ?_))))
        refine ⟨p + 1, by omega, by omega, mkS_le rfl ?_ ?_⟩
        · simp (maxSteps := 4000000) only [↓reduceIte, Nat.reduceLT, Nat.reduceEqDiff, reduceCtorEq, Nat.reduceAdd, Nat.reduceMul, Int.reduceLE, Int.reduceLT, Int.reduceToNat, Nat.reduceLeDiff, Nat.reduceSub, Int.reduceEq, Nat.reduceBEq, List.replicate, List.set, if_false, if_true, ne_eq, false_implies, implies_true, evA]
        · simp (maxSteps := 4000000) only [↓reduceIte, Nat.reduceLT, Nat.reduceEqDiff, reduceCtorEq, Nat.reduceAdd, Nat.reduceMul, Int.reduceLE, Int.reduceLT, Int.reduceToNat, Nat.reduceLeDiff, Nat.reduceSub, Int.reduceEq, Nat.reduceBEq, List.replicate, List.set, if_false, if_true, ne_eq, false_implies, implies_true, evA]
      · have d2 : decide ((p : Int) < (x.2.length : Int)) = false := by simpa using hpl
        obtain rfl : p = x.2.length := by omega
        have hpp := hlen2 _ hp
        rw [List.take_length] at hpp ⊢
        have hkl : k.length = l.length := hlk.symm
        have hc4 := c_cputM (cps (N ++ [x.1] ++ [(x.2.length : Int)] ++ x.2)) q (by omega) (by omega)
        have hns' : cps (N ++ [x.1] ++ [(x.2.length : Int)] ++ x.2) ++ codePut q.toNat = cps ([z, a, b, (l.length : Int)] ++ sNums l k (j + 1)) := by
          rw [cps_snoc, hns, ← List.append_assoc, hN, sEnc]
          simp
        rw [hns'] at hc4
        have hw : IntKind.i64.wrap ((j : Int) + 1) = ((j + 1 : Nat) : Int) := i64_in (by omega) (by omega)
        obtain ⟨M, hM⟩ : ∃ M, M = [z, a, b, (l.length : Int)] ++ sNums l k (j + 1) := ⟨_, rfl⟩
        rw [← hM] at hc4
        (repeat (first | refine awp_seq ?_ | refine awp_block ?_ | ((first | refine awp_skip ?_ | refine awp_exit ?_ | refine awp_reg ttok ?_ | (refine awp_draw ttok ?dr_calm ?_; (case dr_calm => decide +kernel)) | refine awp_condM ?_); simp (maxSteps := 4000000) only [↓reduceIte, Nat.reduceLT, Nat.reduceEqDiff, reduceCtorEq, Nat.reduceAdd, Nat.reduceMul, Int.reduceLE, Int.reduceLT, Int.reduceToNat, Nat.reduceLeDiff, Nat.reduceSub, Int.reduceEq, Nat.reduceBEq, List.replicate, List.set, if_false, if_true, ne_eq, false_implies, implies_true, evA, tyA, d2, gk, hkl]; (repeat (with_reducible refine And.intro ?_ ?_; focus ((repeat' with_reducible apply And.intro) <;> (first | omega | with_reducible trivial | with_reducible assumption)))); (with_reducible first | refine awp_id ?_ | refine id_call ?_ | refine id_and ?_ | refine id_ex ?_ | refine id_all ?_ | refine id_le ?_))))
        refine callVC_M [9000] fnok28 hc4 (by simp (maxSteps := 4000000) only [↓reduceIte, Nat.reduceLT, Nat.reduceEqDiff, reduceCtorEq, Nat.reduceAdd, Nat.reduceMul, Int.reduceLE, Int.reduceLT, Int.reduceToNat, Nat.reduceLeDiff, Nat.reduceSub, Int.reduceEq, Nat.reduceBEq, List.replicate, List.set, if_false, if_true, ne_eq, false_implies, implies_true, evA]; rfl) (by simp (maxSteps := 4000000) only [↓reduceIte, Nat.reduceLT, Nat.reduceEqDiff, reduceCtorEq, Nat.reduceAdd, Nat.reduceMul, Int.reduceLE, Int.reduceLT, Int.reduceToNat, Nat.reduceLeDiff, Nat.reduceSub, Int.reduceEq, Nat.reduceBEq, List.replicate, List.set, if_false, if_true, ne_eq, false_implies, implies_true, evA]) ?_
        simp (maxSteps := 4000000) only [↓reduceIte, Nat.reduceLT, Nat.reduceEqDiff, reduceCtorEq, Nat.reduceAdd, Nat.reduceMul, Int.reduceLE, Int.reduceLT, Int.reduceToNat, Nat.reduceLeDiff, Nat.reduceSub, Int.reduceEq, Nat.reduceBEq, List.replicate, List.set, if_false, if_true, ne_eq, false_implies, implies_true, evA, tyA, gk, hkl]
        (repeat (with_reducible refine And.intro ?_ ?_; focus ((repeat' with_reducible apply And.intro) <;> (first | omega | with_reducible trivial | with_reducible assumption))))
        refine awp_swap 9000 119007 ?_
        (repeat (first | refine awp_seq ?_ | refine awp_block ?_ | ((first | refine awp_skip ?_ | refine awp_exit ?_ | refine awp_reg ttok ?_ | (refine awp_draw ttok ?dr_calm ?_; (case dr_calm => decide +kernel)) | refine awp_condM ?_); simp (maxSteps := 4000000) only [↓reduceIte, Nat.reduceLT, Nat.reduceEqDiff, reduceCtorEq, Nat.reduceAdd, Nat.reduceMul, Int.reduceLE, Int.reduceLT, Int.reduceToNat, Nat.reduceLeDiff, Nat.reduceSub, Int.reduceEq, Nat.reduceBEq, List.replicate, List.set, if_false, if_true, ne_eq, false_implies, implies_true, evA, tyA, hw]; (repeat (with_reducible refine And.intro ?_ ?_; focus ((repeat' with_reducible apply And.intro) <;> (first | omega | with_reducible trivial | with_reducible assumption)))); (with_reducible first | refine awp_id ?_ | refine id_call ?_ | refine id_and ?_ | refine id_ex ?_ | refine id_all ?_ | refine id_le ?_))))
        refine ⟨j + 1, by omega, by omega, mkS_le rfl ?_ ?_⟩
        · subst hM; simp (maxSteps := 4000000) only [↓reduceIte, Nat.reduceLT, Nat.reduceEqDiff, reduceCtorEq, Nat.reduceAdd, Nat.reduceMul, Int.reduceLE, Int.reduceLT, Int.reduceToNat, Nat.reduceLeDiff, Nat.reduceSub, Int.reduceEq, Nat.reduceBEq, List.replicate, List.set, if_false, if_true, ne_eq, false_implies, implies_true, evA]
        · subst hM; simp (maxSteps := 4000000) only [↓reduceIte, Nat.reduceLT, Nat.reduceEqDiff, reduceCtorEq, Nat.reduceAdd, Nat.reduceMul, Int.reduceLE, Int.reduceLT, Int.reduceToNat, Nat.reduceLeDiff, Nat.reduceSub, Int.reduceEq, Nat.reduceBEq, List.replicate, List.set, if_false, if_true, ne_eq, false_implies, implies_true, evA]
    · have d1 : decide ((j : Int) < (l.length : Int)) = false := by simpa using hlt
      obtain rfl : j = l.length := by omega
      (repeat (first | refine awp_seq ?_ | refine awp_block ?_ | ((first | refine awp_skip ?_ | refine awp_exit ?_ | refine awp_reg ttok ?_ | (refine awp_draw ttok ?dr_calm ?_; (case dr_calm => decide +kernel)) | refine awp_condM ?_); simp (maxSteps := 4000000) only [↓reduceIte, Nat.reduceLT, Nat.reduceEqDiff, reduceCtorEq, Nat.reduceAdd, Nat.reduceMul, Int.reduceLE, Int.reduceLT, Int.reduceToNat, Nat.reduceLeDiff, Nat.reduceSub, Int.reduceEq, Nat.reduceBEq, List.replicate, List.set, if_false, if_true, ne_eq, false_implies, implies_true, evA, tyA, d1]; (repeat (with_reducible refine And.intro ?_ ?_; focus ((repeat' with_reducible apply And.intro) <;> (first | omega | with_reducible trivial | with_reducible assumption)))); (with_reducible first | refine awp_id ?_ | refine id_call ?_ | refine id_and ?_ | refine id_ex ?_ | refine id_all ?_ | refine id_le ?_))))
      exact awp_ret (ends_own (g := 9000) (.inr rfl) (by simp (maxSteps := 4000000) only [↓reduceIte, Nat.reduceLT, Nat.reduceEqDiff, reduceCtorEq, Nat.reduceAdd, Nat.reduceMul, Int.reduceLE, Int.reduceLT, Int.reduceToNat, Nat.reduceLeDiff, Nat.reduceSub, Int.reduceEq, Nat.reduceBEq, List.replicate, List.set, if_false, if_true, ne_eq, false_implies, implies_true, evA, snapNums]) (by simp (maxSteps := 4000000) only [↓reduceIte, Nat.reduceLT, Nat.reduceEqDiff, reduceCtorEq, Nat.reduceAdd, Nat.reduceMul, Int.reduceLE, Int.reduceLT, Int.reduceToNat, Nat.reduceLeDiff, Nat.reduceSub, Int.reduceEq, Nat.reduceBEq, List.replicate, List.set, if_false, if_true, ne_eq, false_implies, implies_true, evA, snapNums]) rfl)

end Go.Proofs.Ytmfonlkigjpjcaa
