/-
  The contract of galliardlaw37.bytes.
-/
import Derived.Test.YtfllndodnhmhkaaSnCp
import Derived.Test.YtfllndodnhmhkaaSnAny
namespace Go.Proofs.Ytfllndodnhmhkaa
open Go.Ab
set_option linter.unusedSimpArgs false
set_option linter.unusedVariables false

set_option maxRecDepth 20000 in
set_option maxHeartbeats 16000000 in
theorem c_bytes (z a b : Int) (f g : Bool) (l : List (Int × List Int)) (k : List Int) (hm : mayB a b l k = true) (hz0 : 0 ≤ z) (hz : z ≤ 2147483647) :
    Contract Try.prog 31 [i64 z, .agg [i64 a, i64 b, .sl f (srs l), .sl g (ints k)]] (str (cps (snapNums z a b l k))) [] := by
  refine contract_of_awp (rs := [4]) Try.func31 rfl Try.ntmps31 (by simp) rfl fun E => ?_
  obtain ⟨hlk, h16, hA, hB, hS⟩ := mayB_true hm
  have ha := (okI_iff a).1 hA
  have hb := (okI_iff b).1 hB
  have hbd : ∀ j, j ≤ l.length → ∀ n ∈ [z, a, b, (l.length : Int)] ++ sNums l k j, n ≤ 2147483647 := sNums_bd hS hz ha.2 hb.2 h16
  have hct : ∀ j, j ≤ l.length → ([z, a, b, (l.length : Int)] ++ sNums l k j).length ≤ 4 + 11 * j := sNums_ct hS
  have q1 := c_cputN z (by omega)
  have e1 : codePut z.toNat = cps [z] := by simp [cps]
  have b1 : (cps [z]).length ≤ 100 := by have := cps_len [z] (by simp; omega); simp at this; omega
  have b2 : (cps [z, a]).length ≤ 100 := by have := cps_len [z, a] (by simp; omega); simp at this; omega
  have b3 : (cps [z, a, b]).length ≤ 100 := by have := cps_len [z, a, b] (by simp; omega); simp at this; omega
  rw [e1] at q1
  have q2 := c_cputM (cps [z]) a (by omega) (by omega)
  rw [cps_snoc] at q2
  have q3 := c_cputM (cps [z, a]) b (by omega) (by omega)
  rw [cps_snoc] at q3
  have q4 := c_cputM (cps [z, a, b]) (l.length : Int) (by omega) (by omega)
  rw [cps_snoc] at q4
  simp only [List.cons_append, List.nil_append] at q2 q3 q4
  (repeat (first | refine awp_seq ?_ | refine awp_block ?_ | ((first | refine awp_skip ?_ | refine awp_exit ?_ | refine awp_reg ttok ?_ | (refine awp_draw ttok ?dr_calm ?_; (case dr_calm => decide +kernel)) | refine awp_condM ?_); simp (maxSteps := 4000000) only [↓reduceIte, Nat.reduceLT, Nat.reduceEqDiff, reduceCtorEq, Nat.reduceAdd, Nat.reduceMul, Int.reduceLE, Int.reduceLT, Int.reduceToNat, Nat.reduceLeDiff, Nat.reduceSub, Int.reduceEq, Nat.reduceBEq, List.replicate, List.set, if_false, if_true, ne_eq, false_implies, implies_true, evD0, evD1, evD2, evD3, evD4, evD5, evD6, evT, tyA0, tyA1, tyA2, tyA3, tyA4, tyA5, tyA6, tyA7, tyA8]; (repeat (with_reducible refine And.intro ?_ ?_; focus ((repeat' with_reducible apply And.intro) <;> (first | omega | with_reducible trivial | with_reducible assumption)))); (with_reducible first | refine awp_id ?_ | refine id_call ?_ | refine id_and ?_ | refine id_ex ?_ | refine id_all ?_ | refine id_le ?_))))
  refine awp_drawG ttok ((0, none) :: (2, none) :: (3, none) :: (5, none) :: (6, none) :: (8, none) :: (9, none) :: (10, none) :: (1, some [2, 3, 5, 6, 8, 9, 10]) :: (4, some [5, 6, 8, 9, 10]) :: (7, some [8, 9, 10]) :: (11, some []) :: (12, none) :: []) ([]) ([]) (by decide +kernel) fun O hO => ?_; simp only [OpsAre, Nat.reduceAdd, and_true, List.toList_toArray, List.append_eq, List.cons_append, List.nil_append] at hO; simp (maxSteps := 4000000) only [↓reduceIte, Nat.reduceLT, Nat.reduceEqDiff, reduceCtorEq, Nat.reduceAdd, Nat.reduceMul, Int.reduceLE, Int.reduceLT, Int.reduceToNat, Nat.reduceLeDiff, Nat.reduceSub, Int.reduceEq, Nat.reduceBEq, List.replicate, List.set, if_false, if_true, ne_eq, false_implies, implies_true, evD0, evD1, evD2, evD3, evD4, evD5, evD6, evT, tyA0, tyA1, tyA2, tyA3, tyA4, tyA5, tyA6, tyA7, tyA8, hO, srs_len]; (repeat (with_reducible refine And.intro ?_ ?_; focus ((repeat' with_reducible apply And.intro) <;> (first | omega | with_reducible trivial | with_reducible assumption))))
  refine callVC_mk fnok36 q1 rfl ?_
  simp (maxSteps := 4000000) only [↓reduceIte, Nat.reduceLT, Nat.reduceEqDiff, reduceCtorEq, Nat.reduceAdd, Nat.reduceMul, Int.reduceLE, Int.reduceLT, Int.reduceToNat, Nat.reduceLeDiff, Nat.reduceSub, Int.reduceEq, Nat.reduceBEq, List.replicate, List.set, if_false, if_true, ne_eq, false_implies, implies_true, evD0, evD1, evD2, evD3, evD4, evD5, evD6, evT, tyA0, tyA1, tyA2, tyA3, tyA4, tyA5, tyA6, tyA7, tyA8, hO, srs_len]
  (repeat (with_reducible refine And.intro ?_ ?_; focus ((repeat' with_reducible apply And.intro) <;> (first | omega | with_reducible trivial | with_reducible assumption))))
  refine callVC_M [102001] fnok36 q2 (by simp (maxSteps := 4000000) only [↓reduceIte, Nat.reduceLT, Nat.reduceEqDiff, reduceCtorEq, Nat.reduceAdd, Nat.reduceMul, Int.reduceLE, Int.reduceLT, Int.reduceToNat, Nat.reduceLeDiff, Nat.reduceSub, Int.reduceEq, Nat.reduceBEq, List.replicate, List.set, if_false, if_true, ne_eq, false_implies, implies_true, evD0, evD1, evD2, evD3, evD4, evD5, evD6, evT]; rfl) (by simp (maxSteps := 4000000) only [↓reduceIte, Nat.reduceLT, Nat.reduceEqDiff, reduceCtorEq, Nat.reduceAdd, Nat.reduceMul, Int.reduceLE, Int.reduceLT, Int.reduceToNat, Nat.reduceLeDiff, Nat.reduceSub, Int.reduceEq, Nat.reduceBEq, List.replicate, List.set, if_false, if_true, ne_eq, false_implies, implies_true, evD0, evD1, evD2, evD3, evD4, evD5, evD6, evT]) ?_
  simp (maxSteps := 4000000) only [↓reduceIte, Nat.reduceLT, Nat.reduceEqDiff, reduceCtorEq, Nat.reduceAdd, Nat.reduceMul, Int.reduceLE, Int.reduceLT, Int.reduceToNat, Nat.reduceLeDiff, Nat.reduceSub, Int.reduceEq, Nat.reduceBEq, List.replicate, List.set, if_false, if_true, ne_eq, false_implies, implies_true, evD0, evD1, evD2, evD3, evD4, evD5, evD6, evT, tyA0, tyA1, tyA2, tyA3, tyA4, tyA5, tyA6, tyA7, tyA8, hO, srs_len]
  (repeat (with_reducible refine And.intro ?_ ?_; focus ((repeat' with_reducible apply And.intro) <;> (first | omega | with_reducible trivial | with_reducible assumption))))
  refine callVC_M [102005] fnok36 q3 (by simp (maxSteps := 4000000) only [↓reduceIte, Nat.reduceLT, Nat.reduceEqDiff, reduceCtorEq, Nat.reduceAdd, Nat.reduceMul, Int.reduceLE, Int.reduceLT, Int.reduceToNat, Nat.reduceLeDiff, Nat.reduceSub, Int.reduceEq, Nat.reduceBEq, List.replicate, List.set, if_false, if_true, ne_eq, false_implies, implies_true, evD0, evD1, evD2, evD3, evD4, evD5, evD6, evT]; rfl) (by simp (maxSteps := 4000000) only [↓reduceIte, Nat.reduceLT, Nat.reduceEqDiff, reduceCtorEq, Nat.reduceAdd, Nat.reduceMul, Int.reduceLE, Int.reduceLT, Int.reduceToNat, Nat.reduceLeDiff, Nat.reduceSub, Int.reduceEq, Nat.reduceBEq, List.replicate, List.set, if_false, if_true, ne_eq, false_implies, implies_true, evD0, evD1, evD2, evD3, evD4, evD5, evD6, evT]) ?_
  simp (maxSteps := 4000000) only [↓reduceIte, Nat.reduceLT, Nat.reduceEqDiff, reduceCtorEq, Nat.reduceAdd, Nat.reduceMul, Int.reduceLE, Int.reduceLT, Int.reduceToNat, Nat.reduceLeDiff, Nat.reduceSub, Int.reduceEq, Nat.reduceBEq, List.replicate, List.set, if_false, if_true, ne_eq, false_implies, implies_true, evD0, evD1, evD2, evD3, evD4, evD5, evD6, evT, tyA0, tyA1, tyA2, tyA3, tyA4, tyA5, tyA6, tyA7, tyA8, hO, srs_len]
  (repeat (with_reducible refine And.intro ?_ ?_; focus ((repeat' with_reducible apply And.intro) <;> (first | omega | with_reducible trivial | with_reducible assumption))))
  refine callVC_M [102008] fnok36 q4 (by simp (maxSteps := 4000000) only [↓reduceIte, Nat.reduceLT, Nat.reduceEqDiff, reduceCtorEq, Nat.reduceAdd, Nat.reduceMul, Int.reduceLE, Int.reduceLT, Int.reduceToNat, Nat.reduceLeDiff, Nat.reduceSub, Int.reduceEq, Nat.reduceBEq, List.replicate, List.set, if_false, if_true, ne_eq, false_implies, implies_true, evD0, evD1, evD2, evD3, evD4, evD5, evD6, evT]; rfl) (by simp (maxSteps := 4000000) only [↓reduceIte, Nat.reduceLT, Nat.reduceEqDiff, reduceCtorEq, Nat.reduceAdd, Nat.reduceMul, Int.reduceLE, Int.reduceLT, Int.reduceToNat, Nat.reduceLeDiff, Nat.reduceSub, Int.reduceEq, Nat.reduceBEq, List.replicate, List.set, if_false, if_true, ne_eq, false_implies, implies_true, evD0, evD1, evD2, evD3, evD4, evD5, evD6, evT]) ?_
  simp (maxSteps := 4000000) only [↓reduceIte, Nat.reduceLT, Nat.reduceEqDiff, reduceCtorEq, Nat.reduceAdd, Nat.reduceMul, Int.reduceLE, Int.reduceLT, Int.reduceToNat, Nat.reduceLeDiff, Nat.reduceSub, Int.reduceEq, Nat.reduceBEq, List.replicate, List.set, if_false, if_true, ne_eq, false_implies, implies_true, evD0, evD1, evD2, evD3, evD4, evD5, evD6, evT, tyA0, tyA1, tyA2, tyA3, tyA4, tyA5, tyA6, tyA7, tyA8, hO, srs_len]
  (repeat (with_reducible refine And.intro ?_ ?_; focus ((repeat' with_reducible apply And.intro) <;> (first | omega | with_reducible trivial | with_reducible assumption))))
  clear hO
  refine awp_swap 9000 102012 ?_
  (repeat (first | refine awp_seq ?_ | refine awp_block ?_ | ((first | refine awp_skip ?_ | refine awp_exit ?_ | refine awp_reg ttok ?_ | (refine awp_draw ttok ?dr_calm ?_; (case dr_calm => decide +kernel)) | refine awp_condM ?_); simp (maxSteps := 4000000) only [↓reduceIte, Nat.reduceLT, Nat.reduceEqDiff, reduceCtorEq, Nat.reduceAdd, Nat.reduceMul, Int.reduceLE, Int.reduceLT, Int.reduceToNat, Nat.reduceLeDiff, Nat.reduceSub, Int.reduceEq, Nat.reduceBEq, List.replicate, List.set, if_false, if_true, ne_eq, false_implies, implies_true, evD0, evD1, evD2, evD3, evD4, evD5, evD6, evT, tyA0, tyA1, tyA2, tyA3, tyA4, tyA5, tyA6, tyA7, tyA8]; (repeat (with_reducible refine And.intro ?_ ?_; focus ((repeat' with_reducible apply And.intro) <;> (first | omega | with_reducible trivial | with_reducible assumption)))); (with_reducible first | refine awp_id ?_ | refine id_call ?_ | refine id_and ?_ | refine id_ex ?_ | refine id_all ?_ | refine id_le ?_))))
  refine awp_loop (X := Nat) (fun j => mkS 74 [(3, .ptr 1000 0 0), (5, .own 9000 0 (cps ([z, a, b, (l.length : Int)] ++ sNums l k j)).length), (6, i64 j)] [(1000, { sz := 4, rows := [[i64 a, i64 b, .sl f (srs l), .sl g (ints k)]], flat := false }), (9000, { sz := 1, rows := bys (cps ([z, a, b, (l.length : Int)] ++ sNums l k j)) })]) (fun j => j ≤ l.length) (fun j => l.length - j) 0 (by omega) (mkS_le rfl ?_ ?_) ?_
  · simp (maxSteps := 4000000) only [↓reduceIte, Nat.reduceLT, Nat.reduceEqDiff, reduceCtorEq, Nat.reduceAdd, Nat.reduceMul, Int.reduceLE, Int.reduceLT, Int.reduceToNat, Nat.reduceLeDiff, Nat.reduceSub, Int.reduceEq, Nat.reduceBEq, List.replicate, List.set, if_false, if_true, ne_eq, false_implies, implies_true, evD0, evD1, evD2, evD3, evD4, evD5, evD6, evT, sNums, List.range_zero, List.flatMap_nil]
    try rfl
  · simp (maxSteps := 4000000) only [↓reduceIte, Nat.reduceLT, Nat.reduceEqDiff, reduceCtorEq, Nat.reduceAdd, Nat.reduceMul, Int.reduceLE, Int.reduceLT, Int.reduceToNat, Nat.reduceLeDiff, Nat.reduceSub, Int.reduceEq, Nat.reduceBEq, List.replicate, List.set, if_false, if_true, ne_eq, false_implies, implies_true, evD0, evD1, evD2, evD3, evD4, evD5, evD6, evT, sNums, List.range_zero, List.flatMap_nil]
    try rfl
  intro j hj
  have hpre := cps_len _ (hbd j hj)
  have hprec := hct j hj
  by_cases hlt : j < l.length
  · have d1 : decide ((j : Int) < (l.length : Int)) = true := by simpa using hlt
    have gi := srs_get hlt
    have gk := ints_get (l := k) (i := j) (by omega)
    have hsj := sOk_true (hS j hlt)
    have hns := sNums_succ l k j
    have gx := @ints_get (l.getD j (0, [])).2
    generalize l.getD j (0, []) = x at *
    generalize k.getD j 0 = q at *
    generalize hN : [z, a, b, (l.length : Int)] ++ sNums l k j = N at *
    have hc1 := c_cputM (cps N) x.1 (by omega) (by omega)
    rw [cps_snoc] at hc1
    have hbN : ∀ n ∈ N, n ≤ 2147483647 := fun n hn => by rw [← hN] at hn; exact hbd j hj n hn
    have hl1 : (cps (N ++ [x.1])).length ≤ 100000 := by
      have := cps_len (N ++ [x.1]) (fun n hn => by
        rcases List.mem_append.1 hn with h | h
        · exact hbN n h
        · rw [List.mem_singleton.1 h]; omega)
      simp only [List.length_append, List.length_cons, List.length_nil] at this; omega
    have hc2 := c_cputM (cps (N ++ [x.1])) (x.2.length : Int) (by omega) (by omega)
    rw [cps_snoc] at hc2
    (repeat (first | refine awp_seq ?_ | refine awp_block ?_ | ((first | refine awp_skip ?_ | refine awp_exit ?_ | refine awp_reg ttok ?_ | (refine awp_draw ttok ?dr_calm ?_; (case dr_calm => decide +kernel)) | refine awp_condM ?_); simp (maxSteps := 4000000) only [↓reduceIte, Nat.reduceLT, Nat.reduceEqDiff, reduceCtorEq, Nat.reduceAdd, Nat.reduceMul, Int.reduceLE, Int.reduceLT, Int.reduceToNat, Nat.reduceLeDiff, Nat.reduceSub, Int.reduceEq, Nat.reduceBEq, List.replicate, List.set, if_false, if_true, ne_eq, false_implies, implies_true, evD0, evD1, evD2, evD3, evD4, evD5, evD6, evT, tyA0, tyA1, tyA2, tyA3, tyA4, tyA5, tyA6, tyA7, tyA8, d1, gi, srs_len]; (repeat (with_reducible refine And.intro ?_ ?_; focus ((repeat' with_reducible apply And.intro) <;> (first | omega | with_reducible trivial | with_reducible assumption)))); (with_reducible first | refine awp_id ?_ | refine id_call ?_ | refine id_and ?_ | refine id_ex ?_ | refine id_all ?_ | refine id_le ?_))))
    refine awp_drawG ttok ((0, none) :: (1, none) :: (2, none) :: (3, none) :: (4, none) :: (5, none) :: (6, none) :: (8, none) :: (9, none) :: (10, none) :: (11, none) :: (12, none) :: (13, none) :: (14, none) :: (7, some [8, 9, 10, 11, 12, 13, 14]) :: (15, some []) :: (16, none) :: []) ([]) ([]) (by decide +kernel) fun O hO => ?_; simp only [OpsAre, Nat.reduceAdd, and_true, List.toList_toArray, List.append_eq, List.cons_append, List.nil_append] at hO; simp (maxSteps := 4000000) only [↓reduceIte, Nat.reduceLT, Nat.reduceEqDiff, reduceCtorEq, Nat.reduceAdd, Nat.reduceMul, Int.reduceLE, Int.reduceLT, Int.reduceToNat, Nat.reduceLeDiff, Nat.reduceSub, Int.reduceEq, Nat.reduceBEq, List.replicate, List.set, if_false, if_true, ne_eq, false_implies, implies_true, evD0, evD1, evD2, evD3, evD4, evD5, evD6, evT, tyA0, tyA1, tyA2, tyA3, tyA4, tyA5, tyA6, tyA7, tyA8, hO, gi, srs_len]; (repeat (with_reducible refine And.intro ?_ ?_; focus ((repeat' with_reducible apply And.intro) <;> (first | omega | with_reducible trivial | with_reducible assumption))))
    refine callVC_M [9000] fnok36 hc1 (by simp (maxSteps := 4000000) only [↓reduceIte, Nat.reduceLT, Nat.reduceEqDiff, reduceCtorEq, Nat.reduceAdd, Nat.reduceMul, Int.reduceLE, Int.reduceLT, Int.reduceToNat, Nat.reduceLeDiff, Nat.reduceSub, Int.reduceEq, Nat.reduceBEq, List.replicate, List.set, if_false, if_true, ne_eq, false_implies, implies_true, evD0, evD1, evD2, evD3, evD4, evD5, evD6, evT]; rfl) (by simp (maxSteps := 4000000) only [↓reduceIte, Nat.reduceLT, Nat.reduceEqDiff, reduceCtorEq, Nat.reduceAdd, Nat.reduceMul, Int.reduceLE, Int.reduceLT, Int.reduceToNat, Nat.reduceLeDiff, Nat.reduceSub, Int.reduceEq, Nat.reduceBEq, List.replicate, List.set, if_false, if_true, ne_eq, false_implies, implies_true, evD0, evD1, evD2, evD3, evD4, evD5, evD6, evT]) ?_
    simp (maxSteps := 4000000) only [↓reduceIte, Nat.reduceLT, Nat.reduceEqDiff, reduceCtorEq, Nat.reduceAdd, Nat.reduceMul, Int.reduceLE, Int.reduceLT, Int.reduceToNat, Nat.reduceLeDiff, Nat.reduceSub, Int.reduceEq, Nat.reduceBEq, List.replicate, List.set, if_false, if_true, ne_eq, false_implies, implies_true, evD0, evD1, evD2, evD3, evD4, evD5, evD6, evT, tyA0, tyA1, tyA2, tyA3, tyA4, tyA5, tyA6, tyA7, tyA8, hO, gi, srs_len]
    (repeat (with_reducible refine And.intro ?_ ?_; focus ((repeat' with_reducible apply And.intro) <;> (first | omega | with_reducible trivial | with_reducible assumption))))
    refine callVC_M [106008] fnok36 hc2 (by simp (maxSteps := 4000000) only [↓reduceIte, Nat.reduceLT, Nat.reduceEqDiff, reduceCtorEq, Nat.reduceAdd, Nat.reduceMul, Int.reduceLE, Int.reduceLT, Int.reduceToNat, Nat.reduceLeDiff, Nat.reduceSub, Int.reduceEq, Nat.reduceBEq, List.replicate, List.set, if_false, if_true, ne_eq, false_implies, implies_true, evD0, evD1, evD2, evD3, evD4, evD5, evD6, evT]; rfl) (by simp (maxSteps := 4000000) only [↓reduceIte, Nat.reduceLT, Nat.reduceEqDiff, reduceCtorEq, Nat.reduceAdd, Nat.reduceMul, Int.reduceLE, Int.reduceLT, Int.reduceToNat, Nat.reduceLeDiff, Nat.reduceSub, Int.reduceEq, Nat.reduceBEq, List.replicate, List.set, if_false, if_true, ne_eq, false_implies, implies_true, evD0, evD1, evD2, evD3, evD4, evD5, evD6, evT]) ?_
    simp (maxSteps := 4000000) only [↓reduceIte, Nat.reduceLT, Nat.reduceEqDiff, reduceCtorEq, Nat.reduceAdd, Nat.reduceMul, Int.reduceLE, Int.reduceLT, Int.reduceToNat, Nat.reduceLeDiff, Nat.reduceSub, Int.reduceEq, Nat.reduceBEq, List.replicate, List.set, if_false, if_true, ne_eq, false_implies, implies_true, evD0, evD1, evD2, evD3, evD4, evD5, evD6, evT, tyA0, tyA1, tyA2, tyA3, tyA4, tyA5, tyA6, tyA7, tyA8, hO, gi, srs_len]
    (repeat (with_reducible refine And.intro ?_ ?_; focus ((repeat' with_reducible apply And.intro) <;> (first | omega | with_reducible trivial | with_reducible assumption))))
    clear hO
    refine awp_swap 9000 106016 ?_
    (repeat (first | refine awp_seq ?_ | refine awp_block ?_ | ((first | refine awp_skip ?_ | refine awp_exit ?_ | refine awp_reg ttok ?_ | (refine awp_draw ttok ?dr_calm ?_; (case dr_calm => decide +kernel)) | refine awp_condM ?_); simp (maxSteps := 4000000) only [↓reduceIte, Nat.reduceLT, Nat.reduceEqDiff, reduceCtorEq, Nat.reduceAdd, Nat.reduceMul, Int.reduceLE, Int.reduceLT, Int.reduceToNat, Nat.reduceLeDiff, Nat.reduceSub, Int.reduceEq, Nat.reduceBEq, List.replicate, List.set, if_false, if_true, ne_eq, false_implies, implies_true, evD0, evD1, evD2, evD3, evD4, evD5, evD6, evT, tyA0, tyA1, tyA2, tyA3, tyA4, tyA5, tyA6, tyA7, tyA8]; (repeat (with_reducible refine And.intro ?_ ?_; focus ((repeat' with_reducible apply And.intro) <;> (first | omega | with_reducible trivial | with_reducible assumption)))); (with_reducible first | refine awp_id ?_ | refine id_call ?_ | refine id_and ?_ | refine id_ex ?_ | refine id_all ?_ | refine id_le ?_))))
    have hhx : ∀ n ∈ x.2, n ≤ 2147483647 := fun n hn => (hsj.2.2.2.2.2.2 n hn).2
    have hlen2 : ∀ p, p ≤ x.2.length → (cps (N ++ [x.1] ++ [(x.2.length : Int)] ++ x.2.take p)).length ≤ 100000 := fun p hp => by
      have := cps_len (N ++ [x.1] ++ [(x.2.length : Int)] ++ x.2.take p) (fun n hn => by
        rcases List.mem_append.1 hn with h | h
        · rcases List.mem_append.1 h with h | h
          · rcases List.mem_append.1 h with h | h
            · exact hbN n h
            · rw [List.mem_singleton.1 h]; omega
          · rw [List.mem_singleton.1 h]; omega
        · exact hhx n (List.mem_of_mem_take h))
      simp only [List.length_append, List.length_cons, List.length_nil, List.length_take] at this; omega
    refine awp_loop (X := Nat) (fun p => mkS 74 [(3, .ptr 1000 0 0), (5, .own 9000 0 (cps (N ++ [x.1] ++ [(x.2.length : Int)] ++ x.2.take p)).length), (6, i64 j), (7, i64 p)] [(1000, { sz := 4, rows := [[i64 a, i64 b, .sl f (srs l), .sl g (ints k)]], flat := false }), (9000, { sz := 1, rows := bys (cps (N ++ [x.1] ++ [(x.2.length : Int)] ++ x.2.take p)) })]) (fun p => p ≤ x.2.length) (fun p => x.2.length - p) 0 (by omega) (mkS_le rfl ?_ ?_) ?_
    · simp (maxSteps := 4000000) only [↓reduceIte, Nat.reduceLT, Nat.reduceEqDiff, reduceCtorEq, Nat.reduceAdd, Nat.reduceMul, Int.reduceLE, Int.reduceLT, Int.reduceToNat, Nat.reduceLeDiff, Nat.reduceSub, Int.reduceEq, Nat.reduceBEq, List.replicate, List.set, if_false, if_true, ne_eq, false_implies, implies_true, evD0, evD1, evD2, evD3, evD4, evD5, evD6, evT]
      try rfl
    · simp (maxSteps := 4000000) only [↓reduceIte, Nat.reduceLT, Nat.reduceEqDiff, reduceCtorEq, Nat.reduceAdd, Nat.reduceMul, Int.reduceLE, Int.reduceLT, Int.reduceToNat, Nat.reduceLeDiff, Nat.reduceSub, Int.reduceEq, Nat.reduceBEq, List.replicate, List.set, if_false, if_true, ne_eq, false_implies, implies_true, evD0, evD1, evD2, evD3, evD4, evD5, evD6, evT]
      try rfl
    intro p hp
    by_cases hpl : p < x.2.length
    · have d2 : decide ((p : Int) < (x.2.length : Int)) = true := by simpa using hpl
      have gp := gx hpl
      have hpp := hlen2 p hp
      have hw : IntKind.i64.wrap ((p : Int) + 1) = ((p + 1 : Nat) : Int) := i64_in (by omega) (by omega)
      have htk : x.2.take p ++ [x.2.getD p 0] = x.2.take (p + 1) := by
        rw [List.take_succ_eq_append_getElem hpl]; simp [List.getD, List.getElem?_eq_getElem hpl]
      have hy := hhx (x.2.getD p 0) (by simp [List.getD, List.getElem?_eq_getElem hpl])
      have hc3 := c_cputM (cps (N ++ [x.1] ++ [(x.2.length : Int)] ++ x.2.take p)) (x.2.getD p 0) (by omega) (by omega)
      rw [cps_snoc, List.append_assoc _ (x.2.take p), htk] at hc3
      generalize x.2.getD p 0 = y at *
      (repeat (first | refine awp_seq ?_ | refine awp_block ?_ | ((first | refine awp_skip ?_ | refine awp_exit ?_ | refine awp_reg ttok ?_ | (refine awp_draw ttok ?dr_calm ?_; (case dr_calm => decide +kernel)) | refine awp_condM ?_); simp (maxSteps := 4000000) only [↓reduceIte, Nat.reduceLT, Nat.reduceEqDiff, reduceCtorEq, Nat.reduceAdd, Nat.reduceMul, Int.reduceLE, Int.reduceLT, Int.reduceToNat, Nat.reduceLeDiff, Nat.reduceSub, Int.reduceEq, Nat.reduceBEq, List.replicate, List.set, if_false, if_true, ne_eq, false_implies, implies_true, evD0, evD1, evD2, evD3, evD4, evD5, evD6, evT, tyA0, tyA1, tyA2, tyA3, tyA4, tyA5, tyA6, tyA7, tyA8, d2, gp, gi, srs_len]; (repeat (with_reducible refine And.intro ?_ ?_; focus ((repeat' with_reducible apply And.intro) <;> (first | omega | with_reducible trivial | with_reducible assumption)))); (with_reducible first | refine awp_id ?_ | refine id_call ?_ | refine id_and ?_ | refine id_ex ?_ | refine id_all ?_ | refine id_le ?_))))
      refine callVC_M [9000] fnok36 hc3 (by simp (maxSteps := 4000000) only [↓reduceIte, Nat.reduceLT, Nat.reduceEqDiff, reduceCtorEq, Nat.reduceAdd, Nat.reduceMul, Int.reduceLE, Int.reduceLT, Int.reduceToNat, Nat.reduceLeDiff, Nat.reduceSub, Int.reduceEq, Nat.reduceBEq, List.replicate, List.set, if_false, if_true, ne_eq, false_implies, implies_true, evD0, evD1, evD2, evD3, evD4, evD5, evD6, evT]; rfl) (by simp (maxSteps := 4000000) only [↓reduceIte, Nat.reduceLT, Nat.reduceEqDiff, reduceCtorEq, Nat.reduceAdd, Nat.reduceMul, Int.reduceLE, Int.reduceLT, Int.reduceToNat, Nat.reduceLeDiff, Nat.reduceSub, Int.reduceEq, Nat.reduceBEq, List.replicate, List.set, if_false, if_true, ne_eq, false_implies, implies_true, evD0, evD1, evD2, evD3, evD4, evD5, evD6, evT]) ?_
      simp (maxSteps := 4000000) only [↓reduceIte, Nat.reduceLT, Nat.reduceEqDiff, reduceCtorEq, Nat.reduceAdd, Nat.reduceMul, Int.reduceLE, Int.reduceLT, Int.reduceToNat, Nat.reduceLeDiff, Nat.reduceSub, Int.reduceEq, Nat.reduceBEq, List.replicate, List.set, if_false, if_true, ne_eq, false_implies, implies_true, evD0, evD1, evD2, evD3, evD4, evD5, evD6, evT, tyA0, tyA1, tyA2, tyA3, tyA4, tyA5, tyA6, tyA7, tyA8]
      (repeat (with_reducible refine And.intro ?_ ?_; focus ((repeat' with_reducible apply And.intro) <;> (first | omega | with_reducible trivial | with_reducible assumption))))
      refine awp_swap 9000 110011 ?_
      (repeat (first | refine awp_seq ?_ | refine awp_block ?_ | ((first | refine awp_skip ?_ | refine awp_exit ?_ | refine awp_reg ttok ?_ | (refine awp_draw ttok ?dr_calm ?_; (case dr_calm => decide +kernel)) | refine awp_condM ?_); simp (maxSteps := 4000000) only [↓reduceIte, Nat.reduceLT, Nat.reduceEqDiff, reduceCtorEq, Nat.reduceAdd, Nat.reduceMul, Int.reduceLE, Int.reduceLT, Int.reduceToNat, Nat.reduceLeDiff, Nat.reduceSub, Int.reduceEq, Nat.reduceBEq, List.replicate, List.set, if_false, if_true, ne_eq, false_implies, implies_true, evD0, evD1, evD2, evD3, evD4, evD5, evD6, evT, tyA0, tyA1, tyA2, tyA3, tyA4, tyA5, tyA6, tyA7, tyA8, hw]; (repeat (with_reducible refine And.intro ?_ ?_; focus ((repeat' with_reducible apply And.intro) <;> (first | omega | with_reducible trivial | with_reducible assumption)))); (with_reducible first | refine awp_id ?_ | refine id_call ?_ | refine id_and ?_ | refine id_ex ?_ | refine id_all ?_ | refine id_le ?_))))
      refine ⟨p + 1, by omega, by omega, mkS_le rfl ?_ ?_⟩
      · simp (maxSteps := 4000000) only [↓reduceIte, Nat.reduceLT, Nat.reduceEqDiff, reduceCtorEq, Nat.reduceAdd, Nat.reduceMul, Int.reduceLE, Int.reduceLT, Int.reduceToNat, Nat.reduceLeDiff, Nat.reduceSub, Int.reduceEq, Nat.reduceBEq, List.replicate, List.set, if_false, if_true, ne_eq, false_implies, implies_true, evD0, evD1, evD2, evD3, evD4, evD5, evD6, evT]
      · simp (maxSteps := 4000000) only [↓reduceIte, Nat.reduceLT, Nat.reduceEqDiff, reduceCtorEq, Nat.reduceAdd, Nat.reduceMul, Int.reduceLE, Int.reduceLT, Int.reduceToNat, Nat.reduceLeDiff, Nat.reduceSub, Int.reduceEq, Nat.reduceBEq, List.replicate, List.set, if_false, if_true, ne_eq, false_implies, implies_true, evD0, evD1, evD2, evD3, evD4, evD5, evD6, evT]
    · have d2 : decide ((p : Int) < (x.2.length : Int)) = false := by simpa using hpl
      obtain rfl : p = x.2.length := by omega
      have hpp := hlen2 _ hp
      rw [List.take_length] at hpp ⊢
      have hkl : k.length = l.length := hlk.symm
      have hc4 := c_cputM (cps (N ++ [x.1] ++ [(x.2.length : Int)] ++ x.2)) q (by omega) (by omega)
      have hns' : cps (N ++ [x.1] ++ [(x.2.length : Int)] ++ x.2) ++ codePut q.toNat = cps ([z, a, b, (l.length : Int)] ++ sNums l k (j + 1)) := by
        rw [cps_snoc, hns, ← List.append_assoc, hN, sEnc]
        simp
      rw [hns'] at hc4
      have hw : IntKind.i64.wrap ((j : Int) + 1) = ((j + 1 : Nat) : Int) := i64_in (by omega) (by omega)
      obtain ⟨M, hM⟩ : ∃ M, M = [z, a, b, (l.length : Int)] ++ sNums l k (j + 1) := ⟨_, rfl⟩
      rw [← hM] at hc4
      (repeat (first | refine awp_seq ?_ | refine awp_block ?_ | ((first | refine awp_skip ?_ | refine awp_exit ?_ | refine awp_reg ttok ?_ | (refine awp_draw ttok ?dr_calm ?_; (case dr_calm => decide +kernel)) | refine awp_condM ?_); simp (maxSteps := 4000000) only [↓reduceIte, Nat.reduceLT, Nat.reduceEqDiff, reduceCtorEq, Nat.reduceAdd, Nat.reduceMul, Int.reduceLE, Int.reduceLT, Int.reduceToNat, Nat.reduceLeDiff, Nat.reduceSub, Int.reduceEq, Nat.reduceBEq, List.replicate, List.set, if_false, if_true, ne_eq, false_implies, implies_true, evD0, evD1, evD2, evD3, evD4, evD5, evD6, evT, tyA0, tyA1, tyA2, tyA3, tyA4, tyA5, tyA6, tyA7, tyA8, d2, gi, gk, hkl, srs_len]; (repeat (with_reducible refine And.intro ?_ ?_; focus ((repeat' with_reducible apply And.intro) <;> (first | omega | with_reducible trivial | with_reducible assumption)))); (with_reducible first | refine awp_id ?_ | refine id_call ?_ | refine id_and ?_ | refine id_ex ?_ | refine id_all ?_ | refine id_le ?_))))
      refine callVC_M [9000] fnok36 hc4 (by simp (maxSteps := 4000000) only [↓reduceIte, Nat.reduceLT, Nat.reduceEqDiff, reduceCtorEq, Nat.reduceAdd, Nat.reduceMul, Int.reduceLE, Int.reduceLT, Int.reduceToNat, Nat.reduceLeDiff, Nat.reduceSub, Int.reduceEq, Nat.reduceBEq, List.replicate, List.set, if_false, if_true, ne_eq, false_implies, implies_true, evD0, evD1, evD2, evD3, evD4, evD5, evD6, evT]; rfl) (by simp (maxSteps := 4000000) only [↓reduceIte, Nat.reduceLT, Nat.reduceEqDiff, reduceCtorEq, Nat.reduceAdd, Nat.reduceMul, Int.reduceLE, Int.reduceLT, Int.reduceToNat, Nat.reduceLeDiff, Nat.reduceSub, Int.reduceEq, Nat.reduceBEq, List.replicate, List.set, if_false, if_true, ne_eq, false_implies, implies_true, evD0, evD1, evD2, evD3, evD4, evD5, evD6, evT]) ?_
      simp (maxSteps := 4000000) only [↓reduceIte, Nat.reduceLT, Nat.reduceEqDiff, reduceCtorEq, Nat.reduceAdd, Nat.reduceMul, Int.reduceLE, Int.reduceLT, Int.reduceToNat, Nat.reduceLeDiff, Nat.reduceSub, Int.reduceEq, Nat.reduceBEq, List.replicate, List.set, if_false, if_true, ne_eq, false_implies, implies_true, evD0, evD1, evD2, evD3, evD4, evD5, evD6, evT, tyA0, tyA1, tyA2, tyA3, tyA4, tyA5, tyA6, tyA7, tyA8, gk, hkl]
      (repeat (with_reducible refine And.intro ?_ ?_; focus ((repeat' with_reducible apply And.intro) <;> (first | omega | with_reducible trivial | with_reducible assumption))))
      refine awp_swap 9000 111007 ?_
      (repeat (first | refine awp_seq ?_ | refine awp_block ?_ | ((first | refine awp_skip ?_ | refine awp_exit ?_ | refine awp_reg ttok ?_ | (refine awp_draw ttok ?dr_calm ?_; (case dr_calm => decide +kernel)) | refine awp_condM ?_); simp (maxSteps := 4000000) only [↓reduceIte, Nat.reduceLT, Nat.reduceEqDiff, reduceCtorEq, Nat.reduceAdd, Nat.reduceMul, Int.reduceLE, Int.reduceLT, Int.reduceToNat, Nat.reduceLeDiff, Nat.reduceSub, Int.reduceEq, Nat.reduceBEq, List.replicate, List.set, if_false, if_true, ne_eq, false_implies, implies_true, evD0, evD1, evD2, evD3, evD4, evD5, evD6, evT, tyA0, tyA1, tyA2, tyA3, tyA4, tyA5, tyA6, tyA7, tyA8, hw]; (repeat (with_reducible refine And.intro ?_ ?_; focus ((repeat' with_reducible apply And.intro) <;> (first | omega | with_reducible trivial | with_reducible assumption)))); (with_reducible first | refine awp_id ?_ | refine id_call ?_ | refine id_and ?_ | refine id_ex ?_ | refine id_all ?_ | refine id_le ?_))))
      refine ⟨j + 1, by omega, by omega, mkS_le rfl ?_ ?_⟩
      · subst hM; simp (maxSteps := 4000000) only [↓reduceIte, Nat.reduceLT, Nat.reduceEqDiff, reduceCtorEq, Nat.reduceAdd, Nat.reduceMul, Int.reduceLE, Int.reduceLT, Int.reduceToNat, Nat.reduceLeDiff, Nat.reduceSub, Int.reduceEq, Nat.reduceBEq, List.replicate, List.set, if_false, if_true, ne_eq, false_implies, implies_true, evD0, evD1, evD2, evD3, evD4, evD5, evD6, evT]
      · subst hM; simp (maxSteps := 4000000) only [↓reduceIte, Nat.reduceLT, Nat.reduceEqDiff, reduceCtorEq, Nat.reduceAdd, Nat.reduceMul, Int.reduceLE, Int.reduceLT, Int.reduceToNat, Nat.reduceLeDiff, Nat.reduceSub, Int.reduceEq, Nat.reduceBEq, List.replicate, List.set, if_false, if_true, ne_eq, false_implies, implies_true, evD0, evD1, evD2, evD3, evD4, evD5, evD6, evT]
  · have d1 : decide ((j : Int) < (l.length : Int)) = false := by simpa using hlt
    obtain rfl : j = l.length := by omega
    have htl : ∀ x : List UInt8, List.take x.length x = x := fun x => List.take_length
    (repeat (first | refine awp_seq ?_ | refine awp_block ?_ | ((first | refine awp_skip ?_ | refine awp_exit ?_ | refine awp_reg ttok ?_ | (refine awp_draw ttok ?dr_calm ?_; (case dr_calm => decide +kernel)) | refine awp_condM ?_); simp (maxSteps := 4000000) only [↓reduceIte, Nat.reduceLT, Nat.reduceEqDiff, reduceCtorEq, Nat.reduceAdd, Nat.reduceMul, Int.reduceLE, Int.reduceLT, Int.reduceToNat, Nat.reduceLeDiff, Nat.reduceSub, Int.reduceEq, Nat.reduceBEq, List.replicate, List.set, if_false, if_true, ne_eq, false_implies, implies_true, evD0, evD1, evD2, evD3, evD4, evD5, evD6, evT, tyA0, tyA1, tyA2, tyA3, tyA4, tyA5, tyA6, tyA7, tyA8, d1, srs_len, htl]; (repeat (with_reducible refine And.intro ?_ ?_; focus ((repeat' with_reducible apply And.intro) <;> (first | omega | with_reducible trivial | with_reducible assumption)))); (with_reducible first | refine awp_id ?_ | refine id_call ?_ | refine id_and ?_ | refine id_ex ?_ | refine id_all ?_ | refine id_le ?_))))
    exact awp_ret (ends_plain (.inr rfl) rfl (by simp (maxSteps := 4000000) only [↓reduceIte, Nat.reduceLT, Nat.reduceEqDiff, reduceCtorEq, Nat.reduceAdd, Nat.reduceMul, Int.reduceLE, Int.reduceLT, Int.reduceToNat, Nat.reduceLeDiff, Nat.reduceSub, Int.reduceEq, Nat.reduceBEq, List.replicate, List.set, if_false, if_true, ne_eq, false_implies, implies_true, evD0, evD1, evD2, evD3, evD4, evD5, evD6, evT, snapNums]))

end Go.Proofs.Ytfllndodnhmhkaa
