import Derived.Test.YtglcnghfmdcdpaaAl
import Derived.Test.YtglcnghfmdcdpaaIdx
import Derived.Test.YtglcnghfmdcdpaaTy
set_option linter.unusedSimpArgs false
set_option linter.unusedVariables false
namespace Go.Proofs.Ytglcnghfmdcdpaa
open Go.Ab
set_option maxHeartbeats 16000000 in
theorem c_SomeG (L st : Int) (x y : Bool) (A B : List (List D)) (most many : Int) (xs : List (List Int)) (hit : IterC Try.prog 19 [.ref [i64 L, i64 st, .sl x A, .sl y B] 0, .ref [i64 most] 0] (fun x => .sl false (ints x)) xs) (hm : 0 < many) (hm2 : many ≤ 1000000) :
    Contract Try.prog 13 [.agg [i64 L, i64 st, .sl x A, .sl y B], i64 most, i64 many] (.sl false (iis (xs.take many.toNat))) [] := by
  refine contract_of_awp2V ttok (rs := [.tmp 6]) Try.func13 rfl Try.ntmps13 (by simp) rfl fun E hE => ?_
  have d1 : decide (many ≤ 0) = false := by simp; omega
  (refine awp2_seqL (awp_reg ttok ?_); simp (maxSteps := 4000000) only [↓reduceIte, Nat.reduceLT, Nat.reduceEqDiff, reduceCtorEq, Nat.reduceAdd, Nat.reduceMul, Int.reduceLE, Int.reduceLT, Int.reduceToNat, Nat.reduceLeDiff, Nat.reduceSub, Int.reduceEq, Nat.reduceBEq, evB, tyA, then2_n]; (repeat (with_reducible refine And.intro ?_ ?_; exact sdX)))
  (refine awp2_seqL (awp_reg ttok ?_); simp (maxSteps := 4000000) only [↓reduceIte, Nat.reduceLT, Nat.reduceEqDiff, reduceCtorEq, Nat.reduceAdd, Nat.reduceMul, Int.reduceLE, Int.reduceLT, Int.reduceToNat, Nat.reduceLeDiff, Nat.reduceSub, Int.reduceEq, Nat.reduceBEq, evB, tyA, then2_n]; (repeat (with_reducible refine And.intro ?_ ?_; exact sdX)))
  refine awp2_seqL ?_
  (repeat (first | refine awp_seq ?_ | refine awp_block ?_ | ((first | refine awp_skip ?_ | refine awp_exit ?_ | refine awp_reg ttok ?_ | (refine awp_draw ttok ?dr_calm ?_; (case dr_calm => decide +kernel)) | refine awp_condM ?_); simp (maxSteps := 4000000) only [↓reduceIte, Nat.reduceLT, Nat.reduceEqDiff, reduceCtorEq, Nat.reduceAdd, Nat.reduceMul, Int.reduceLE, Int.reduceLT, Int.reduceToNat, Nat.reduceLeDiff, Nat.reduceSub, Int.reduceEq, Nat.reduceBEq, evB, tyA, d1]; (repeat (with_reducible refine And.intro ?_ ?_; exact sdX)); (with_reducible first | refine awp_id ?_ | refine id_call ?_ | refine id_and ?_ | refine id_ex ?_ | refine id_all ?_ | refine id_nat ?_ | refine id_le ?_))))
  refine awp_skip ?_
  rw [then2_n]
  refine awp2_seqR (awp2_seqL (awp_reg ttok ?_))
  simp (maxSteps := 4000000) only [↓reduceIte, Nat.reduceLT, Nat.reduceEqDiff, reduceCtorEq, Nat.reduceAdd, Nat.reduceMul, Int.reduceLE, Int.reduceLT, Int.reduceToNat, Nat.reduceLeDiff, Nat.reduceSub, Int.reduceEq, Nat.reduceBEq, evB, tyA, then2_n]
  (repeat (with_reducible refine And.intro ?_ ?_; exact sdX))
  refine callVC_mk fnok11 (c_All L st x y A B most) rfl ?_
  simp (maxSteps := 4000000) only [↓reduceIte, Nat.reduceLT, Nat.reduceEqDiff, reduceCtorEq, Nat.reduceAdd, Nat.reduceMul, Int.reduceLE, Int.reduceLT, Int.reduceToNat, Nat.reduceLeDiff, Nat.reduceSub, Int.reduceEq, Nat.reduceBEq, evB, tyA, then2_n]
  (repeat (with_reducible refine And.intro ?_ ?_; exact sdX))
  refine awp2_pure 5 (d := .ptr 1001 0 0) evX (by simp (maxSteps := 4000000) only [↓reduceIte, Nat.reduceLT, Nat.reduceEqDiff, reduceCtorEq, Nat.reduceAdd, Nat.reduceMul, Int.reduceLE, Int.reduceLT, Int.reduceToNat, Nat.reduceLeDiff, Nat.reduceSub, Int.reduceEq, Nat.reduceBEq, evB]; rfl) evX ?_
  refine awp2_le (st' := mkS 24 [(5, .ref [i64 many] 0), (7, .ptr 2000 0 0), (13, .fn (.func 19) 0 [.ref [i64 L, i64 st, .sl x A, .sl y B] 0, .ref [i64 most] 0])] [(2000, { sz := 1, rows := [[.sl true []]], flat := false })]) ?_ (mkS_le rfl ?_ ?_)
  rotate_left
  · exact evX
  · simp (maxSteps := 4000000) only [↓reduceIte, Nat.reduceLT, Nat.reduceEqDiff, reduceCtorEq, Nat.reduceAdd, Nat.reduceMul, Int.reduceLE, Int.reduceLT, Int.reduceToNat, Nat.reduceLeDiff, Nat.reduceSub, Int.reduceEq, Nat.reduceBEq, evB]
    rfl
  refine awp2_own_nilC 2000 0 0 9000 1 (o := { sz := 1, rows := [[.sl true []]], flat := false }) (by decide) rfl rfl rfl rfl ?_
  refine awp2_block (awp2_range 24 [(5, .ref [i64 many] 0), (7, .ptr 2000 0 0)] (fun pre => [(2000, { sz := 1, rows := [[.own 9000 0 pre.length]], flat := false }), (9000, { sz := 1, rows := iis pre })]) [2000] (fun pre => (pre.length : Int) < many) (fun e pre => e = .exit 0 ∧ (pre.length : Int) = many) hE hm (mkS_le rfl ?_ ?_) rfl (fun _ => rfl) (fun _ => rfl) rfl fnok19 rfl hit (fun _ => rfl) (by decide) ?_ ?_ ?_)
  · exact evX
  · simp (maxSteps := 4000000) only [↓reduceIte, Nat.reduceLT, Nat.reduceEqDiff, reduceCtorEq, Nat.reduceAdd, Nat.reduceMul, Int.reduceLE, Int.reduceLT, Int.reduceToNat, Nat.reduceLeDiff, Nat.reduceSub, Int.reduceEq, Nat.reduceBEq, evB]
    rfl
  · intro pre w hi hp l E0
    refine awpI_reg ttok ?_
    simp (maxSteps := 4000000) only [↓reduceIte, Nat.reduceLT, Nat.reduceEqDiff, reduceCtorEq, Nat.reduceAdd, Nat.reduceMul, Int.reduceLE, Int.reduceLT, Int.reduceToNat, Nat.reduceLeDiff, Nat.reduceSub, Int.reduceEq, Nat.reduceBEq, evB, tyA]
    (repeat (with_reducible refine And.intro ?_ ?_; exact sdX))
    refine ⟨rfl, fun E1 => ?_⟩
    refine awpI_le (st' := mkS 24 [(5, .ref [i64 many] 0), (7, .ptr 2000 0 0), (8, .sl false (ints w))] [(2000, { sz := 1, rows := [[.own 9000 0 pre.length]], flat := false, pin := true }), (9000, { sz := 1, rows := iis pre })]) ?_ (mkS_le rfl ?_ ⟨rfl, rfl, trivial⟩)
    rotate_left
    · exact evX
    refine awpI_block ?_
    have y1 : iis pre ++ [[.sl false (ints w)]] = iis (pre ++ [w]) := by simp [iis]
    have y2 : (iis pre).take pre.length = iis pre := List.take_of_length_le (by rw [iis_len]; exact Nat.le_refl _)
    have y3 : (∀ row ∈ [[D.sl false (ints w)]], row.length = 1) = True := by simp
    (refine awpI_seq (awpI_reg ttok ?_); simp (maxSteps := 4000000) only [↓reduceIte, Nat.reduceLT, Nat.reduceEqDiff, reduceCtorEq, Nat.reduceAdd, Nat.reduceMul, Int.reduceLE, Int.reduceLT, Int.reduceToNat, Nat.reduceLeDiff, Nat.reduceSub, Int.reduceEq, Nat.reduceBEq, evB, tyA, thenI_n, y1, y2, y3, iis_len]; (repeat (with_reducible refine And.intro ?_ ?_; exact sdX)))
    have y4 : (pre ++ [w]).length = pre.length + 1 := by simp
    by_cases hl : ((pre.length + 1 : Nat) : Int) ≥ many
    · have d2 : decide (((pre.length + 1 : Nat) : Int) ≥ many) = true := by simpa using hl
      (refine awpI_seq (awpI_reg ttok ?_); simp (maxSteps := 4000000) only [↓reduceIte, Nat.reduceLT, Nat.reduceEqDiff, reduceCtorEq, Nat.reduceAdd, Nat.reduceMul, Int.reduceLE, Int.reduceLT, Int.reduceToNat, Nat.reduceLeDiff, Nat.reduceSub, Int.reduceEq, Nat.reduceBEq, evB, tyA, thenI_n, d2]; (repeat (with_reducible refine And.intro ?_ ?_; exact sdX)))
      refine awpI_cond (t := true) evX (fun _ => awpI_exit ?_) (fun q => by cases q)
      refine ⟨⟨rfl, by rw [y4]; omega⟩, ?_⟩
      simp only [pinned, List.map_cons, List.map_nil, y4]
      simp (maxSteps := 4000000) only [↓reduceIte, Nat.reduceLT, Nat.reduceEqDiff, reduceCtorEq, Nat.reduceAdd, Nat.reduceMul, Int.reduceLE, Int.reduceLT, Int.reduceToNat, Nat.reduceLeDiff, Nat.reduceSub, Int.reduceEq, Nat.reduceBEq, evB]
      try exact ⟨rfl, rfl, trivial⟩
    · have d2 : decide (((pre.length + 1 : Nat) : Int) ≥ many) = false := by simpa using hl
      (refine awpI_seq (awpI_reg ttok ?_); simp (maxSteps := 4000000) only [↓reduceIte, Nat.reduceLT, Nat.reduceEqDiff, reduceCtorEq, Nat.reduceAdd, Nat.reduceMul, Int.reduceLE, Int.reduceLT, Int.reduceToNat, Nat.reduceLeDiff, Nat.reduceSub, Int.reduceEq, Nat.reduceBEq, evB, tyA, thenI_n, d2]; (repeat (with_reducible refine And.intro ?_ ?_; exact sdX)))
      refine awpI_cond (t := false) evX (fun q => by cases q) (fun _ => awpI_skip ?_)
      refine ⟨by show ((pre ++ [w]).length : Int) < many; rw [y4]; omega, ?_⟩
      simp only [pinned, List.map_cons, List.map_nil, y4]
      simp (maxSteps := 4000000) only [↓reduceIte, Nat.reduceLT, Nat.reduceEqDiff, reduceCtorEq, Nat.reduceAdd, Nat.reduceMul, Int.reduceLE, Int.reduceLT, Int.reduceToNat, Nat.reduceLeDiff, Nat.reduceSub, Int.reduceEq, Nat.reduceBEq, evB]
      try exact ⟨rfl, rfl, trivial⟩
  · intro hi
    have ht : xs.take many.toNat = xs := List.take_of_length_le (by omega)
    refine (show ∀ E2, AWP Try.prog E2 _ _ _ from fun E2 => ?_)
    (repeat (first | refine awp_seq ?_ | refine awp_block ?_ | ((first | refine awp_skip ?_ | refine awp_exit ?_ | refine awp_reg ttok ?_ | (refine awp_draw ttok ?dr_calm ?_; (case dr_calm => decide +kernel)) | refine awp_condM ?_); simp (maxSteps := 4000000) only [↓reduceIte, Nat.reduceLT, Nat.reduceEqDiff, reduceCtorEq, Nat.reduceAdd, Nat.reduceMul, Int.reduceLE, Int.reduceLT, Int.reduceToNat, Nat.reduceLeDiff, Nat.reduceSub, Int.reduceEq, Nat.reduceBEq, evB, tyA]; (repeat (with_reducible refine And.intro ?_ ?_; exact sdX)); (with_reducible first | refine awp_id ?_ | refine id_call ?_ | refine id_and ?_ | refine id_ex ?_ | refine id_all ?_ | refine id_nat ?_ | refine id_le ?_))))
    refine awp_pure 6 (d := .own 9000 0 xs.length) (d' := .sl false (iis (xs.take many.toNat))) (ids := [9000]) (p := xs.length ≤ (iis xs).length) evX (by simp (maxSteps := 4000000) only [↓reduceIte, Nat.reduceLT, Nat.reduceEqDiff, reduceCtorEq, Nat.reduceAdd, Nat.reduceMul, Int.reduceLE, Int.reduceLT, Int.reduceToNat, Nat.reduceLeDiff, Nat.reduceSub, Int.reduceEq, Nat.reduceBEq, evB, iis_take, List.take_length, ht]) (by rw [iis_len]; exact Nat.le_refl _) ?_
    exact awp_ret (endsV [] (.inr rfl) (by simp (maxSteps := 4000000) only [↓reduceIte, Nat.reduceLT, Nat.reduceEqDiff, reduceCtorEq, Nat.reduceAdd, Nat.reduceMul, Int.reduceLE, Int.reduceLT, Int.reduceToNat, Nat.reduceLeDiff, Nat.reduceSub, Int.reduceEq, Nat.reduceBEq, evB]; rfl) trivial)
  · rintro e pre he hp ⟨rfl, hq⟩
    rw [blockA, if_pos rfl]
    have ht : xs.take many.toNat = pre := by
      obtain ⟨m, rfl⟩ := hp
      rw [show many.toNat = pre.length by omega]
      simp
    refine (show ∀ E2, AWP Try.prog E2 _ _ _ from fun E2 => ?_)
    (repeat (first | refine awp_seq ?_ | refine awp_block ?_ | ((first | refine awp_skip ?_ | refine awp_exit ?_ | refine awp_reg ttok ?_ | (refine awp_draw ttok ?dr_calm ?_; (case dr_calm => decide +kernel)) | refine awp_condM ?_); simp (maxSteps := 4000000) only [↓reduceIte, Nat.reduceLT, Nat.reduceEqDiff, reduceCtorEq, Nat.reduceAdd, Nat.reduceMul, Int.reduceLE, Int.reduceLT, Int.reduceToNat, Nat.reduceLeDiff, Nat.reduceSub, Int.reduceEq, Nat.reduceBEq, evB, tyA]; (repeat (with_reducible refine And.intro ?_ ?_; exact sdX)); (with_reducible first | refine awp_id ?_ | refine id_call ?_ | refine id_and ?_ | refine id_ex ?_ | refine id_all ?_ | refine id_nat ?_ | refine id_le ?_))))
    refine awp_pure 6 (d := .own 9000 0 pre.length) (d' := .sl false (iis (xs.take many.toNat))) (ids := [9000]) (p := pre.length ≤ (iis pre).length) evX (by simp (maxSteps := 4000000) only [↓reduceIte, Nat.reduceLT, Nat.reduceEqDiff, reduceCtorEq, Nat.reduceAdd, Nat.reduceMul, Int.reduceLE, Int.reduceLT, Int.reduceToNat, Nat.reduceLeDiff, Nat.reduceSub, Int.reduceEq, Nat.reduceBEq, evB, iis_take, List.take_length, ht]) (by rw [iis_len]; exact Nat.le_refl _) ?_
    exact awp_ret (endsV [] (.inr rfl) (by simp (maxSteps := 4000000) only [↓reduceIte, Nat.reduceLT, Nat.reduceEqDiff, reduceCtorEq, Nat.reduceAdd, Nat.reduceMul, Int.reduceLE, Int.reduceLT, Int.reduceToNat, Nat.reduceLeDiff, Nat.reduceSub, Int.reduceEq, Nat.reduceBEq, evB]; rfl) trivial)
set_option maxHeartbeats 16000000 in
theorem c_SomeNo (L st : Int) (x y : Bool) (A B : List (List D)) (most many : Int) (hm : many ≤ 0) :
    Contract Try.prog 13 [.agg [i64 L, i64 st, .sl x A, .sl y B], i64 most, i64 many] (.sl true []) [] := by
  refine contract_of_awp2V ttok (rs := [.tmp 6]) Try.func13 rfl Try.ntmps13 (by simp) rfl fun E hE => ?_
  have d1 : decide (many ≤ 0) = true := by simpa using hm
  (refine awp2_seqL (awp_reg ttok ?_); simp (maxSteps := 4000000) only [↓reduceIte, Nat.reduceLT, Nat.reduceEqDiff, reduceCtorEq, Nat.reduceAdd, Nat.reduceMul, Int.reduceLE, Int.reduceLT, Int.reduceToNat, Nat.reduceLeDiff, Nat.reduceSub, Int.reduceEq, Nat.reduceBEq, evB, tyA, then2_n]; (repeat (with_reducible refine And.intro ?_ ?_; exact sdX)))
  (refine awp2_seqL (awp_reg ttok ?_); simp (maxSteps := 4000000) only [↓reduceIte, Nat.reduceLT, Nat.reduceEqDiff, reduceCtorEq, Nat.reduceAdd, Nat.reduceMul, Int.reduceLE, Int.reduceLT, Int.reduceToNat, Nat.reduceLeDiff, Nat.reduceSub, Int.reduceEq, Nat.reduceBEq, evB, tyA, then2_n]; (repeat (with_reducible refine And.intro ?_ ?_; exact sdX)))
  refine awp2_seqL ?_
  (repeat (first | refine awp_seq ?_ | refine awp_block ?_ | ((first | refine awp_skip ?_ | refine awp_exit ?_ | refine awp_reg ttok ?_ | (refine awp_draw ttok ?dr_calm ?_; (case dr_calm => decide +kernel)) | refine awp_condM ?_); simp (maxSteps := 4000000) only [↓reduceIte, Nat.reduceLT, Nat.reduceEqDiff, reduceCtorEq, Nat.reduceAdd, Nat.reduceMul, Int.reduceLE, Int.reduceLT, Int.reduceToNat, Nat.reduceLeDiff, Nat.reduceSub, Int.reduceEq, Nat.reduceBEq, evB, tyA, d1]; (repeat (with_reducible refine And.intro ?_ ?_; exact sdX)); (with_reducible first | refine awp_id ?_ | refine id_call ?_ | refine id_and ?_ | refine id_ex ?_ | refine id_all ?_ | refine id_nat ?_ | refine id_le ?_))))
  exact awp_ret (endsV [] (.inr rfl) (by simp (maxSteps := 4000000) only [↓reduceIte, Nat.reduceLT, Nat.reduceEqDiff, reduceCtorEq, Nat.reduceAdd, Nat.reduceMul, Int.reduceLE, Int.reduceLT, Int.reduceToNat, Nat.reduceLeDiff, Nat.reduceSub, Int.reduceEq, Nat.reduceBEq, evB]; rfl) trivial)
theorem nOk_22 : NOk 2 3 [[1, 2], [-1, 2], [-1, -1]] := ⟨rfl, by decide⟩
set_option maxRecDepth 20000 in
set_option maxHeartbeats 16000000 in
theorem c_awake22 : Contract Try.prog 6 [] (bo true) [] := by
  refine contract_of_awp (rs := [0]) Try.func6 rfl Try.ntmps6 (by simp) rfl fun E => ?_
  have h1 := c_All1 nOk_22 (by decide) ⟨by decide, by decide⟩ 0 (by decide) [false, false, true] rfl 5
  have v1 : fromL [false, false, true] [[1, 2], [-1, 2], [-1, -1]] (liveL [false, false, true] [[1, 2], [-1, 2], [-1, -1]]) (mostN 5) 0 [] = [[0, 1], [1]] := by decide
  rw [v1] at h1
  have h2 := c_SomeG 2 0 false false (bos [false, false, true]) (iis [[1, 2], [-1, 2], [-1, -1]]) 5 9 [[0, 1], [1]] h1 (by decide) (by decide)
  have v2 : List.take (9 : Int).toNat [[(0 : Int), 1], [1]] = [[0, 1], [1]] := rfl
  rw [v2] at h2
  (repeat (first | refine awp_seq ?_ | refine awp_block ?_ | ((first | refine awp_skip ?_ | refine awp_exit ?_ | refine awp_reg ttok ?_ | (refine awp_draw ttok ?dr_calm ?_; (case dr_calm => decide +kernel)) | refine awp_condM ?_); simp (maxSteps := 4000000) only [↓reduceIte, Nat.reduceLT, Nat.reduceEqDiff, reduceCtorEq, Nat.reduceAdd, Nat.reduceMul, Int.reduceLE, Int.reduceLT, Int.reduceToNat, Nat.reduceLeDiff, Nat.reduceSub, Int.reduceEq, Nat.reduceBEq, evB, tyA]; (repeat (with_reducible refine And.intro ?_ ?_; exact sdX)); (with_reducible first | refine awp_id ?_ | refine id_call ?_ | refine id_and ?_ | refine id_ex ?_ | refine id_all ?_ | refine id_nat ?_ | refine id_le ?_))))
  refine callVC_mk fnok13 h2 rfl ?_
  simp (maxSteps := 4000000) only [↓reduceIte, Nat.reduceLT, Nat.reduceEqDiff, reduceCtorEq, Nat.reduceAdd, Nat.reduceMul, Int.reduceLE, Int.reduceLT, Int.reduceToNat, Nat.reduceLeDiff, Nat.reduceSub, Int.reduceEq, Nat.reduceBEq, evB, tyA]
  (repeat (with_reducible refine And.intro ?_ ?_; exact sdX))
  have k0 : (((2 : Nat) : Int) == 2) = true := rfl
  have k1 : (((1 : Nat) : Int) == 1) = true := rfl
  have k2 : (iis [[(0 : Int), 1], [1]]).getD 0 [] = [.sl false (ints [0, 1])] := rfl
  have k3 : (iis [[(0 : Int), 1], [1]]).getD 1 [] = [.sl false (ints [1])] := rfl
  have k4 : (ints [1]).getD 0 [] = [i64 1] := rfl
  have k5 : ((1 : Int) == 1) = true := rfl
  (repeat (first | refine awp_seq ?_ | refine awp_block ?_ | ((first | refine awp_skip ?_ | refine awp_exit ?_ | refine awp_reg ttok ?_ | (refine awp_draw ttok ?dr_calm ?_; (case dr_calm => decide +kernel)) | refine awp_condM ?_); simp (maxSteps := 4000000) only [↓reduceIte, Nat.reduceLT, Nat.reduceEqDiff, reduceCtorEq, Nat.reduceAdd, Nat.reduceMul, Int.reduceLE, Int.reduceLT, Int.reduceToNat, Nat.reduceLeDiff, Nat.reduceSub, Int.reduceEq, Nat.reduceBEq, evB, tyA, k0, k1, k2, k3, k4, k5, iis_len, ints_len, List.length_cons, List.length_nil]; (repeat (with_reducible refine And.intro ?_ ?_; exact sdX)); (with_reducible first | refine awp_id ?_ | refine id_call ?_ | refine id_and ?_ | refine id_ex ?_ | refine id_all ?_ | refine id_nat ?_ | refine id_le ?_))))
  exact awp_ret (ends_plain (.inr rfl) rfl evX)
def lexB : List Int → List Int → Bool
  | _, [] => false
  | [], _ :: _ => true
  | a :: l, b :: m => if a = b then lexB l m else decide (a < b)
theorem lexB_irr : ∀ l, lexB l l = false
  | [] => rfl
  | a :: l => by simp [lexB, lexB_irr l]
theorem lexB_trans : ∀ {a b c : List Int}, lexB a b = true → lexB b c = true → lexB a c = true
  | _, [], _, h, _ => by cases ‹List Int› <;> simp [lexB] at h
  | [], _ :: _, [], _, h => by simp [lexB] at h
  | [], _ :: _, _ :: _, _, _ => rfl
  | x :: a, y :: b, [], _, h => by simp [lexB] at h
  | x :: a, y :: b, z :: c, h, k => by
    simp only [lexB] at h k ⊢
    by_cases e : x = y
    · subst e
      rw [if_pos rfl] at h
      by_cases e2 : x = z
      · subst e2
        rw [if_pos rfl] at k ⊢
        exact lexB_trans h k
      · rw [if_neg e2] at k ⊢
        exact k
    · rw [if_neg e] at h
      simp only [decide_eq_true_eq] at h
      by_cases e2 : y = z
      · subst e2
        rw [if_neg e]
        simpa using h
      · rw [if_neg e2] at k
        simp only [decide_eq_true_eq] at k
        rw [if_neg (by omega)]
        simp; omega
theorem lexB_tri : ∀ {a b : List Int}, lexB a b = false → a = b ∨ lexB b a = true
  | [], [], _ => .inl rfl
  | [], _ :: _, h => by simp [lexB] at h
  | _ :: _, [], _ => .inr rfl
  | x :: a, y :: b, h => by
    simp only [lexB] at h ⊢
    by_cases e : x = y
    · subst e
      rw [if_pos rfl] at h ⊢
      rcases lexB_tri h with q | q
      · exact .inl (by rw [q])
      · exact .inr q
    · rw [if_neg e] at h
      rw [if_neg (fun z => e z.symm)]
      simp at h
      right; simp; omega
theorem lexB_asymm {a b : List Int} (h : lexB a b = true) (k : lexB b a = true) : False := by
  have := lexB_trans h k
  rw [lexB_irr] at this; cases this
theorem lexB_app : ∀ (w : List Int) {a b : List Int}, lexB (w ++ a) (w ++ b) = lexB a b
  | [], _, _ => rfl
  | x :: w, a, b => by simp [lexB, lexB_app w]
def posI (x : List Int) (l : List (List Int)) : Nat → Nat
  | 0 => 0
  | n + 1 => if lexB x (l.getD n []) = true then posI x l n else n + 1
theorem posI_le (x : List Int) (l : List (List Int)) : ∀ n, posI x l n ≤ n
  | 0 => Nat.le_refl _
  | n + 1 => by
    simp only [posI]; split
    · exact Nat.le_succ_of_le (posI_le x l n)
    · exact Nat.le_refl _
theorem posI_behind (x : List Int) (l : List (List Int)) : ∀ n j, posI x l n ≤ j → j < n → lexB x (l.getD j []) = true
  | 0, j, _, h => by omega
  | n + 1, j, h1, h2 => by
    simp only [posI] at h1
    split at h1
    · rename_i q
      rcases Nat.lt_or_ge j n with z | z
      · exact posI_behind x l n j h1 z
      · rw [show j = n by omega]; exact q
    · omega
theorem posI_ahead (x : List Int) (l : List (List Int)) : ∀ n, posI x l n = 0 ∨ lexB x (l.getD (posI x l n - 1) []) = false
  | 0 => .inl rfl
  | n + 1 => by
    simp only [posI]
    split
    · exact posI_ahead x l n
    · rename_i q
      right
      simpa using q
def insI (x : List Int) (l : List (List Int)) : List (List Int) := l.take (posI x l l.length) ++ x :: l.drop (posI x l l.length)
abbrev srt (l : List (List Int)) : Prop := l.Pairwise fun a b => lexB a b = true
theorem srt_get {l : List (List Int)} (h : srt l) {i j : Nat} (hij : i < j) (hj : j < l.length) : lexB (l.getD i []) (l.getD j []) = true := by
  have := List.pairwise_iff_getElem.1 h i j (by omega) hj hij
  rw [List.getD_eq_getElem?_getD, List.getD_eq_getElem?_getD, List.getElem?_eq_getElem (by omega), List.getElem?_eq_getElem hj]
  exact this
theorem insI_spec {x : List Int} {l : List (List Int)} (h : srt l) (hx : x ∉ l) : srt (insI x l) ∧ ∀ y, y ∈ insI x l ↔ y = x ∨ y ∈ l := by
  have hp := posI_le x l l.length
  have hb := posI_behind x l l.length
  have ha := posI_ahead x l l.length
  unfold insI
  generalize posI x l l.length = p at *
  have hget : ∀ j (hj : j < l.length), l[j] = l.getD j [] := fun j hj => by rw [List.getD_eq_getElem?_getD, List.getElem?_eq_getElem hj]; rfl
  have hbeh : ∀ y ∈ l.drop p, lexB x y = true := by
    intro y hy
    obtain ⟨i, hi, rfl⟩ := List.mem_iff_getElem.1 hy
    rw [List.getElem_drop]
    simp at hi
    rw [hget _ (by omega)]
    exact hb _ (by omega) (by omega)
  have hahd : ∀ y ∈ l.take p, lexB y x = true := by
    intro y hy
    obtain ⟨i, hi, rfl⟩ := List.mem_iff_getElem.1 hy
    rw [List.getElem_take]
    simp at hi
    rw [hget _ (by omega)]
    rcases ha with q | q
    · omega
    · have h1 : lexB (l.getD (p - 1) []) x = true := by
        rcases lexB_tri q with e | e
        · exfalso
          apply hx
          rw [e, ← hget _ (by omega)]
          exact List.getElem_mem _
        · exact e
      rcases Nat.lt_or_ge i (p - 1) with z | z
      · exact lexB_trans (srt_get h z (by omega)) h1
      · rw [show i = p - 1 by omega]; exact h1
  refine ⟨?_, fun y => ?_⟩
  · refine List.pairwise_append.2 ⟨h.sublist (List.take_sublist _ _), List.pairwise_cons.2 ⟨hbeh, h.sublist (List.drop_sublist _ _)⟩, fun a q b z => ?_⟩
    rcases List.mem_cons.1 z with rfl | z
    · exact hahd a q
    · exact lexB_trans (hahd a q) (hbeh b z)
  · have : l = l.take p ++ l.drop p := (List.take_append_drop p l).symm
    constructor
    · intro q
      rcases List.mem_append.1 q with q | q
      · exact .inr (List.mem_of_mem_take q)
      · rcases List.mem_cons.1 q with q | q
        · exact .inl q
        · exact .inr (List.mem_of_mem_drop q)
    · rintro (rfl | q)
      · simp
      · rw [this] at q
        rcases List.mem_append.1 q with q | q
        · exact List.mem_append.2 (.inl q)
        · exact List.mem_append.2 (.inr (List.mem_cons_of_mem _ q))
theorem srt_uniq : ∀ {l m : List (List Int)}, srt l → srt m → (∀ x, x ∈ l ↔ x ∈ m) → l = m
  | [], [], _, _, _ => rfl
  | [], b :: m, _, _, h => by have := (h b).2 (by simp); cases this
  | a :: l, [], _, _, h => by have := (h a).1 (by simp); cases this
  | a :: l, b :: m, h1, h2, h => by
    have h1' := List.pairwise_cons.1 h1
    have h2' := List.pairwise_cons.1 h2
    have e : a = b := by
      rcases List.mem_cons.1 ((h a).1 (by simp)) with q | q
      · exact q
      · rcases List.mem_cons.1 ((h b).2 (by simp)) with z | z
        · exact z.symm
        · exact (lexB_asymm (h2'.1 a q) (h1'.1 b z)).elim
    subst e
    rw [srt_uniq h1'.2 h2'.2 fun x => ?_]
    constructor
    · intro q
      rcases List.mem_cons.1 ((h x).1 (List.mem_cons_of_mem _ q)) with z | z
      · subst z; have := h1'.1 _ q; rw [lexB_irr] at this; cases this
      · exact z
    · intro q
      rcases List.mem_cons.1 ((h x).2 (List.mem_cons_of_mem _ q)) with z | z
      · subst z; have := h2'.1 _ q; rw [lexB_irr] at this; cases this
      · exact z
theorem fromL_pre {F : List Bool} {N : List (List Int)} {V : List Bool} : ∀ {n s : Nat} {w x : List Int}, x ∈ fromL F N V n s w → ∃ u, x = w ++ u
  | 0, s, w, x, h => by
    rw [fromL] at h; split at h
    · exact ⟨[], by rw [List.mem_singleton.1 h]; simp⟩
    · cases h
  | n + 1, s, w, x, h => by
    rw [fromL, List.mem_append] at h
    rcases h with h | h
    · split at h
      · exact ⟨[], by rw [List.mem_singleton.1 h]; simp⟩
      · cases h
    · obtain ⟨k, _, h⟩ := List.mem_flatMap.1 h
      split at h
      · obtain ⟨u, hu⟩ := fromL_pre h
        exact ⟨(k : Int) :: u, by rw [hu]; simp⟩
      · cases h
theorem fromL_srt {F : List Bool} {N : List (List Int)} {V : List Bool} : ∀ (n s : Nat) (w : List Int), srt (fromL F N V n s w)
  | 0, s, w => by rw [fromL]; split <;> simp [srt]
  | n + 1, s, w => by
    rw [fromL]
    refine List.pairwise_append.2 ⟨by split <;> simp, List.pairwise_flatMap.2 ⟨fun k _ => ?_, List.pairwise_lt_range.imp fun {a b} hab x hx y hy => ?_⟩, fun x hx y hy => ?_⟩
    · split
      · exact fromL_srt n _ _
      · simp
    · split at hx
      · split at hy
        · obtain ⟨u, rfl⟩ := fromL_pre hx
          obtain ⟨v, rfl⟩ := fromL_pre hy
          rw [List.append_assoc, List.append_assoc, lexB_app]
          simp only [List.cons_append, List.nil_append, lexB]
          rw [if_neg (by omega)]
          simpa using hab
        · cases hy
      · cases hx
    · obtain ⟨k, _, hy⟩ := List.mem_flatMap.1 hy
      split at hx
      · split at hy
        · obtain ⟨v, rfl⟩ := fromL_pre hy
          rw [List.mem_singleton.1 hx]
          have := lexB_app w (a := []) (b := (k : Int) :: v)
          rw [List.append_nil] at this
          rw [List.append_assoc]
          exact this
        · cases hy
      · cases hx
theorem toD_getD {L k : Nat} {N : List (List Int)} (h : NOk L k N) {s c : Nat} (hs : s < k) (hc : c < (N.getD s []).length) : toD N s c = (N.getD s []).getD c 0 := by
  have := h.len
  unfold toD
  rw [if_neg (by rw [Int.toNat_natCast]; omega), Int.toNat_natCast, Int.toNat_natCast]
theorem endsD_cons {F : List Bool} {N : List (List Int)} {s : Int} (hs : 0 ≤ s) (c : Int) (u : List Int) : endsD F N s (c :: u) = endsD F N (toD N s c) u := by
  unfold endsD; rw [runD, if_neg (by omega)]
theorem endsD_nil {F : List Bool} {N : List (List Int)} (s : Nat) : endsD F N s [] = F.getD s false := by
  simp [endsD, runD]
theorem endsD_neg {F : List Bool} {N : List (List Int)} {s : Int} (hs : s < 0) (u : List Int) : endsD F N s u = false := by
  unfold endsD; rw [runD_neg hs]; simp; omega
theorem fromL_mem {L k : Nat} {N : List (List Int)} (h : NOk L k N) {F : List Bool} (hF : F.length = k) : ∀ {n s : Nat} {w x : List Int}, s < k → (x ∈ fromL F N (liveL F N) n s w ↔ ∃ u, x = w ++ u ∧ u.length ≤ n ∧ endsD F N s u = true)
  | 0, s, w, x, hs => by
    rw [fromL]
    constructor
    · intro q
      split at q
      · exact ⟨[], by rw [List.mem_singleton.1 q]; simp, by simp, by rw [endsD_nil]; assumption⟩
      · cases q
    · rintro ⟨u, rfl, hu, he⟩
      obtain rfl : u = [] := List.length_eq_zero_iff.1 (by omega)
      rw [endsD_nil] at he
      rw [if_pos he]; simp
  | n + 1, s, w, x, hs => by
    have hl := h.len
    obtain ⟨g1, g2⟩ := h.get hs
    rw [fromL, List.mem_append]
    constructor
    · rintro (q | q)
      · split at q
        · exact ⟨[], by rw [List.mem_singleton.1 q]; simp, by simp, by rw [endsD_nil]; assumption⟩
        · cases q
      · obtain ⟨c, hc, q⟩ := List.mem_flatMap.1 q
        have hc' := List.mem_range.1 hc
        split at q
        · rename_i hg
          simp only [goK, Bool.and_eq_true, decide_eq_true_eq] at hg
          have hm := g2 _ (getD_memI hc')
          have hs2 : ((N.getD s []).getD c 0).toNat < k := by omega
          obtain ⟨u, rfl, hu, he⟩ := (fromL_mem h hF hs2).1 q
          refine ⟨(c : Int) :: u, by simp, by simp; omega, ?_⟩
          rw [endsD_cons (Int.natCast_nonneg _), toD_getD h hs hc']
          rw [show (((((N.getD s []).getD c 0).toNat : Nat)) : Int) = (N.getD s []).getD c 0 by omega] at he
          exact he
        · cases q
    · rintro ⟨u, rfl, hu, he⟩
      cases u with
      | nil =>
        left
        rw [endsD_nil] at he
        rw [if_pos he]; simp
      | cons c u =>
        right
        rw [endsD_cons (Int.natCast_nonneg _)] at he
        have ht : 0 ≤ toD N s c := by
          rcases Int.lt_or_le (toD N s c) 0 with q | q
          · rw [endsD_neg q] at he; cases he
          · exact q
        have hcr : 0 ≤ c ∧ c.toNat < (N.getD s []).length := by
          have := ht
          unfold toD at this
          split at this
          · omega
          · rename_i z; rw [Int.toNat_natCast] at z; omega
        obtain ⟨c, rfl⟩ : ∃ m : Nat, c = (m : Int) := ⟨c.toNat, by omega⟩
        rw [Int.toNat_natCast] at hcr
        rw [toD_getD h hs hcr.2] at he ht
        have hm := g2 _ (getD_memI hcr.2)
        refine List.mem_flatMap.2 ⟨c, List.mem_range.2 hcr.2, ?_⟩
        have hlv : (liveL F N).getD ((N.getD s []).getD c 0).toNat false = true := by
          refine (live_iff (by omega) (fun s t ht => ?_) (by omega)).2 (lv_of_run ht he)
          rcases Nat.lt_or_ge s k with z | z
          · have := ((h.get z).2 t ht).2; omega
          · rw [List.getD_eq_getElem?_getD, List.getElem?_eq_none (by omega)] at ht; cases ht
        rw [if_pos (by simp only [goK, hlv, Bool.and_true, decide_eq_true_eq]; omega)]
        have hs2 : ((N.getD s []).getD c 0).toNat < k := by omega
        refine (fromL_mem h hF hs2).2 ⟨u, by simp, by simp at hu; omega, ?_⟩
        rw [show (((((N.getD s []).getD c 0).toNat : Nat)) : Int) = (N.getD s []).getD c 0 by omega]
        exact he
theorem wordsL_nodup (L : Nat) : ∀ n, (wordsL L n).Nodup
  | 0 => by simp [wordsL]
  | n + 1 => by
    rw [wordsL]
    refine List.pairwise_flatMap.2 ⟨fun w _ => ?_, List.Pairwise.imp (fun {a b} hab x hx y hy => ?_) (wordsL_nodup L n)⟩
    · refine List.pairwise_map.2 (List.pairwise_lt_range.imp fun {a b} hab e => ?_)
      have := List.append_cancel_left e
      simp at this; omega
    · obtain ⟨i, _, rfl⟩ := List.mem_map.1 hx
      obtain ⟨j, _, rfl⟩ := List.mem_map.1 hy
      intro e
      exact hab (List.append_inj' e rfl).1
theorem uptoL_nodup (L : Nat) : ∀ n, (uptoL L n).Nodup
  | 0 => wordsL_nodup L 0
  | n + 1 => by
    rw [uptoL]
    refine List.pairwise_append.2 ⟨uptoL_nodup L n, wordsL_nodup L _, fun x hx y hy e => ?_⟩
    have h1 := (uptoL_mem.1 hx).1
    have h2 := (wordsL_mem.1 hy).1
    rw [e] at h1; omega
def wantL (p : List Int → Bool) (U : List (List Int)) : Nat → List (List Int)
  | 0 => []
  | i + 1 => if p (U.getD i []) then insI (U.getD i []) (wantL p U i) else wantL p U i
theorem wantL_spec {p : List Int → Bool} {U : List (List Int)} (hU : U.Nodup) : ∀ i, i ≤ U.length → srt (wantL p U i) ∧ (wantL p U i).length ≤ i ∧ ∀ y, y ∈ wantL p U i ↔ y ∈ U.take i ∧ p y = true
  | 0, _ => by simp [wantL, srt]
  | i + 1, hi => by
    obtain ⟨h1, h0, h2⟩ := wantL_spec hU i (by omega)
    have e : U.take (i + 1) = U.take i ++ [U.getD i []] := by
      rw [List.take_add_one, List.getD_eq_getElem?_getD, List.getElem?_eq_getElem (show i < U.length by omega)]; rfl
    rw [wantL, e]
    have hnm : U.getD i [] ∉ U.take i := by
      have : (U.take (i + 1)).Nodup := hU.sublist (List.take_sublist _ _)
      rw [e] at this
      have := (List.pairwise_append.1 this).2.2
      intro q
      exact this _ q _ (by simp) rfl
    split
    · rename_i hp
      obtain ⟨g1, g2⟩ := insI_spec h1 (x := U.getD i []) (fun q => hnm ((h2 _).1 q).1)
      refine ⟨g1, ?_, fun y => ?_⟩
      · have := posI_le (U.getD i []) (wantL p U i) (wantL p U i).length
        simp only [insI, List.length_append, List.length_cons, List.length_take, List.length_drop]; omega
      · rw [g2, h2, List.mem_append, List.mem_singleton]
        constructor
        · rintro (rfl | ⟨a, b⟩)
          · exact ⟨.inr rfl, hp⟩
          · exact ⟨.inl a, b⟩
        · rintro ⟨a | a, b⟩
          · exact .inr ⟨a, b⟩
          · exact .inl a
    · rename_i hp
      refine ⟨h1, by omega, fun y => ?_⟩
      rw [h2, List.mem_append, List.mem_singleton]
      constructor
      · rintro ⟨a, b⟩; exact ⟨.inl a, b⟩
      · rintro ⟨a | a, b⟩
        · exact ⟨a, b⟩
        · subst a; exact absurd b hp
theorem want_from {L k : Nat} {N : List (List Int)} (h : NOk L k N) {F : List Bool} (hF : F.length = k) {n s : Nat} (hs : s < k) :
    wantL (endsD F N s) (uptoL L n) (uptoL L n).length = fromL F N (liveL F N) n s [] := by
  obtain ⟨h1, _, h2⟩ := wantL_spec (p := endsD F N s) (uptoL_nodup L n) (uptoL L n).length (Nat.le_refl _)
  refine srt_uniq h1 (fromL_srt n s []) fun x => ?_
  rw [h2, List.take_length, fromL_mem h hF hs, uptoL_mem]
  constructor
  · rintro ⟨⟨a, b⟩, c⟩; exact ⟨x, by simp, a, c⟩
  · rintro ⟨u, e, a, c⟩
    rw [List.nil_append] at e; subst e
    refine ⟨⟨a, ?_⟩, c⟩
    have key : ∀ (u : List Int) (s : Nat), s < k → endsD F N s u = true → ∀ y ∈ u, 0 ≤ y ∧ y < (L : Int) := by
      intro u
      induction u with
      | nil => intro s _ _ y hy; cases hy
      | cons c u ih =>
        intro s hs he
        rw [endsD_cons (Int.natCast_nonneg _)] at he
        have ht : 0 ≤ toD N s c := by
          rcases Int.lt_or_le (toD N s c) 0 with q | q
          · rw [endsD_neg q] at he; cases he
          · exact q
        obtain ⟨g1, g2⟩ := h.get hs
        have hcr : 0 ≤ c ∧ c < ((N.getD s []).length : Int) := by
          have := ht
          unfold toD at this
          split at this
          · omega
          · rename_i z; rw [Int.toNat_natCast] at z; omega
        have hm := g2 _ ((toD_mem ht).2.2)
        intro y hy
        rcases List.mem_cons.1 hy with rfl | hy
        · omega
        · refine ih (toD N s c).toNat (by omega) ?_ y hy
          rw [show (((toD N s c).toNat : Nat) : Int) = toD N s c by omega]; exact he
    exact key x s hs c
theorem wantL_len {p : List Int → Bool} {U : List (List Int)} : ∀ i, (wantL p U i).length ≤ i
  | 0 => by simp [wantL]
  | i + 1 => by
    have := wantL_len (p := p) (U := U) i
    rw [wantL]; split
    · have := posI_le (U.getD i []) (wantL p U i) (wantL p U i).length
      simp only [insI, List.length_append, List.length_cons, List.length_take, List.length_drop]; omega
    · omega
theorem lexB_drop : ∀ (l m : List Int) (i : Nat), (∀ j, j < i → l.getD j 0 = m.getD j 0) → i ≤ l.length → i ≤ m.length → lexB l m = lexB (l.drop i) (m.drop i)
  | l, m, 0, _, _, _ => rfl
  | [], _, i + 1, _, h, _ => by simp at h
  | _ :: _, [], i + 1, _, _, h => by simp at h
  | a :: l, b :: m, i + 1, h, h1, h2 => by
    have e : a = b := h 0 (by omega)
    subst e
    have := lexB_drop l m i (fun j hj => by have := h (j + 1) (by omega); simpa using this) (by simp at h1; omega) (by simp at h2; omega)
    simp only [lexB, List.drop_succ_cons]
    simpa using this
theorem lexB_ne {l m : List Int} {i : Nat} (h : ∀ j, j < i → l.getD j 0 = m.getD j 0) (h1 : i < l.length) (h2 : i < m.length) (hn : l.getD i 0 ≠ m.getD i 0) : lexB l m = decide (l.getD i 0 < m.getD i 0) := by
  rw [lexB_drop l m i h (by omega) (by omega), List.drop_eq_getElem_cons h1, List.drop_eq_getElem_cons h2]
  have e1 : l.getD i 0 = l[i] := by rw [List.getD_eq_getElem?_getD, List.getElem?_eq_getElem h1]; rfl
  have e2 : m.getD i 0 = m[i] := by rw [List.getD_eq_getElem?_getD, List.getElem?_eq_getElem h2]; rfl
  rw [e1, e2] at hn ⊢
  simp only [lexB]
  rw [if_neg hn]
theorem lexB_len {l m : List Int} (h : ∀ j, j < min l.length m.length → l.getD j 0 = m.getD j 0) : lexB l m = decide (l.length < m.length) := by
  rcases Nat.lt_or_ge l.length m.length with q | q
  · rw [lexB_drop l m l.length (fun j hj => h j (by omega)) (Nat.le_refl _) (by omega), List.drop_length, List.drop_eq_getElem_cons q]
    simp [lexB, q]
  · rw [lexB_drop l m m.length (fun j hj => h j (by omega)) q (Nat.le_refl _), List.drop_length]
    simp only [lexB]
    rw [eq_comm, decide_eq_false_iff_not]; omega
theorem c_less (f g : Bool) (l m : List Int) (hl : l.length ≤ 9223372036854775807) : Contract Try.prog 10 [.sl f (ints l), .sl g (ints m)] (bo (lexB l m)) [] := by
  refine contract_of_awp (rs := [4]) Try.func10 rfl Try.ntmps10 (by simp) rfl fun E => ?_
  (repeat (first | refine awp_seq ?_ | refine awp_block ?_ | ((first | refine awp_skip ?_ | refine awp_exit ?_ | refine awp_reg ttok ?_ | (refine awp_draw ttok ?dr_calm ?_; (case dr_calm => decide +kernel)) | refine awp_condM ?_); simp (maxSteps := 4000000) only [↓reduceIte, Nat.reduceLT, Nat.reduceEqDiff, reduceCtorEq, Nat.reduceAdd, Nat.reduceMul, Int.reduceLE, Int.reduceLT, Int.reduceToNat, Nat.reduceLeDiff, Nat.reduceSub, Int.reduceEq, Nat.reduceBEq, evB, tyA]; (repeat (with_reducible refine And.intro ?_ ?_; exact sdX)); (with_reducible first | refine awp_id ?_ | refine id_call ?_ | refine id_and ?_ | refine id_ex ?_ | refine id_all ?_ | refine id_nat ?_ | refine id_le ?_))))
  refine awp_loop (X := Nat) (fun i => mkS 41 [(0, .sl f (ints l)), (1, .sl g (ints m)), (5, i64 i)] []) (fun i => (i ≤ l.length ∧ i ≤ m.length) ∧ ∀ j, j < i → l.getD j 0 = m.getD j 0) (fun i => l.length - i) 0 ⟨⟨by omega, by omega⟩, fun j hj => by omega⟩ (mkS_le rfl ?_ ?_) ?_
  · simp (maxSteps := 4000000) only [↓reduceIte, Nat.reduceLT, Nat.reduceEqDiff, reduceCtorEq, Nat.reduceAdd, Nat.reduceMul, Int.reduceLE, Int.reduceLT, Int.reduceToNat, Nat.reduceLeDiff, Nat.reduceSub, Int.reduceEq, Nat.reduceBEq, evB]
    rfl
  · exact evX
  intro i hi
  obtain ⟨⟨hi1, hi2⟩, hp⟩ := hi
  by_cases h1 : i < l.length
  · have d1 : decide ((i : Int) < (l.length : Int)) = true := by simpa using h1
    have w1 : IntKind.wrap .i64 ((i : Int) + 1) = ((i + 1 : Nat) : Int) := i64_in (by omega) (by omega)
    by_cases h2 : i < m.length
    · have d2 : decide ((i : Int) < (m.length : Int)) = true := by simpa using h2
      have gl := ints_get h1
      have gm := ints_get h2
      by_cases hn : l.getD i 0 = m.getD i 0
      · have d3 : (l.getD i 0 != m.getD i 0) = false := by simp only [hn, bne_self_eq_false]
        (repeat (first | refine awp_seq ?_ | refine awp_block ?_ | ((first | refine awp_skip ?_ | refine awp_exit ?_ | refine awp_reg ttok ?_ | (refine awp_draw ttok ?dr_calm ?_; (case dr_calm => decide +kernel)) | refine awp_condM ?_); simp (maxSteps := 4000000) only [↓reduceIte, Nat.reduceLT, Nat.reduceEqDiff, reduceCtorEq, Nat.reduceAdd, Nat.reduceMul, Int.reduceLE, Int.reduceLT, Int.reduceToNat, Nat.reduceLeDiff, Nat.reduceSub, Int.reduceEq, Nat.reduceBEq, evB, tyA, d1, d2, gl, gm, d3, w1, ints_len]; (repeat (with_reducible refine And.intro ?_ ?_; exact sdX)); (with_reducible first | refine awp_id ?_ | refine id_call ?_ | refine id_and ?_ | refine id_ex ?_ | refine id_all ?_ | refine id_nat ?_ | refine id_le ?_))))
        refine ⟨i + 1, ⟨⟨by omega, by omega⟩, fun j hj => ?_⟩, by omega, mkS_le rfl ?_ ?_⟩
        · rcases Nat.lt_or_ge j i with z | z
          · exact hp j z
          · rw [show j = i by omega]; exact hn
        · exact evX
        · exact evX
      · have d3 : (l.getD i 0 != m.getD i 0) = true := by simpa using hn
        (repeat (first | refine awp_seq ?_ | refine awp_block ?_ | ((first | refine awp_skip ?_ | refine awp_exit ?_ | refine awp_reg ttok ?_ | (refine awp_draw ttok ?dr_calm ?_; (case dr_calm => decide +kernel)) | refine awp_condM ?_); simp (maxSteps := 4000000) only [↓reduceIte, Nat.reduceLT, Nat.reduceEqDiff, reduceCtorEq, Nat.reduceAdd, Nat.reduceMul, Int.reduceLE, Int.reduceLT, Int.reduceToNat, Nat.reduceLeDiff, Nat.reduceSub, Int.reduceEq, Nat.reduceBEq, evB, tyA, d1, d2, gl, gm, d3, ints_len]; (repeat (with_reducible refine And.intro ?_ ?_; exact sdX)); (with_reducible first | refine awp_id ?_ | refine id_call ?_ | refine id_and ?_ | refine id_ex ?_ | refine id_all ?_ | refine id_nat ?_ | refine id_le ?_))))
        exact awp_ret (ends_plain (.inr rfl) rfl (by simp (maxSteps := 4000000) only [↓reduceIte, Nat.reduceLT, Nat.reduceEqDiff, reduceCtorEq, Nat.reduceAdd, Nat.reduceMul, Int.reduceLE, Int.reduceLT, Int.reduceToNat, Nat.reduceLeDiff, Nat.reduceSub, Int.reduceEq, Nat.reduceBEq, evB]; rw [lexB_ne hp h1 h2 hn]))
    · have d2 : decide ((i : Int) < (m.length : Int)) = false := by simp; omega
      (repeat (first | refine awp_seq ?_ | refine awp_block ?_ | ((first | refine awp_skip ?_ | refine awp_exit ?_ | refine awp_reg ttok ?_ | (refine awp_draw ttok ?dr_calm ?_; (case dr_calm => decide +kernel)) | refine awp_condM ?_); simp (maxSteps := 4000000) only [↓reduceIte, Nat.reduceLT, Nat.reduceEqDiff, reduceCtorEq, Nat.reduceAdd, Nat.reduceMul, Int.reduceLE, Int.reduceLT, Int.reduceToNat, Nat.reduceLeDiff, Nat.reduceSub, Int.reduceEq, Nat.reduceBEq, evB, tyA, d1, d2, ints_len]; (repeat (with_reducible refine And.intro ?_ ?_; exact sdX)); (with_reducible first | refine awp_id ?_ | refine id_call ?_ | refine id_and ?_ | refine id_ex ?_ | refine id_all ?_ | refine id_nat ?_ | refine id_le ?_))))
      rw [lexB_len (fun j hj => hp j (by omega))]
      have e : decide ((l.length : Int) < (m.length : Int)) = decide (l.length < m.length) := by simp
      (repeat (first | refine awp_seq ?_ | refine awp_block ?_ | ((first | refine awp_skip ?_ | refine awp_exit ?_ | refine awp_reg ttok ?_ | (refine awp_draw ttok ?dr_calm ?_; (case dr_calm => decide +kernel)) | refine awp_condM ?_); simp (maxSteps := 4000000) only [↓reduceIte, Nat.reduceLT, Nat.reduceEqDiff, reduceCtorEq, Nat.reduceAdd, Nat.reduceMul, Int.reduceLE, Int.reduceLT, Int.reduceToNat, Nat.reduceLeDiff, Nat.reduceSub, Int.reduceEq, Nat.reduceBEq, evB, tyA, ints_len]; (repeat (with_reducible refine And.intro ?_ ?_; exact sdX)); (with_reducible first | refine awp_id ?_ | refine id_call ?_ | refine id_and ?_ | refine id_ex ?_ | refine id_all ?_ | refine id_nat ?_ | refine id_le ?_))))
      exact awp_ret (ends_plain (.inr rfl) rfl (by simp (maxSteps := 4000000) only [↓reduceIte, Nat.reduceLT, Nat.reduceEqDiff, reduceCtorEq, Nat.reduceAdd, Nat.reduceMul, Int.reduceLE, Int.reduceLT, Int.reduceToNat, Nat.reduceLeDiff, Nat.reduceSub, Int.reduceEq, Nat.reduceBEq, evB]; rw [e]))
  · have d1 : decide ((i : Int) < (l.length : Int)) = false := by simp; omega
    (repeat (first | refine awp_seq ?_ | refine awp_block ?_ | ((first | refine awp_skip ?_ | refine awp_exit ?_ | refine awp_reg ttok ?_ | (refine awp_draw ttok ?dr_calm ?_; (case dr_calm => decide +kernel)) | refine awp_condM ?_); simp (maxSteps := 4000000) only [↓reduceIte, Nat.reduceLT, Nat.reduceEqDiff, reduceCtorEq, Nat.reduceAdd, Nat.reduceMul, Int.reduceLE, Int.reduceLT, Int.reduceToNat, Nat.reduceLeDiff, Nat.reduceSub, Int.reduceEq, Nat.reduceBEq, evB, tyA, d1, ints_len]; (repeat (with_reducible refine And.intro ?_ ?_; exact sdX)); (with_reducible first | refine awp_id ?_ | refine id_call ?_ | refine id_and ?_ | refine id_ex ?_ | refine id_all ?_ | refine id_nat ?_ | refine id_le ?_))))
    rw [lexB_len (fun j hj => hp j (by omega))]
    have e : decide ((l.length : Int) < (m.length : Int)) = decide (l.length < m.length) := by simp
    (repeat (first | refine awp_seq ?_ | refine awp_block ?_ | ((first | refine awp_skip ?_ | refine awp_exit ?_ | refine awp_reg ttok ?_ | (refine awp_draw ttok ?dr_calm ?_; (case dr_calm => decide +kernel)) | refine awp_condM ?_); simp (maxSteps := 4000000) only [↓reduceIte, Nat.reduceLT, Nat.reduceEqDiff, reduceCtorEq, Nat.reduceAdd, Nat.reduceMul, Int.reduceLE, Int.reduceLT, Int.reduceToNat, Nat.reduceLeDiff, Nat.reduceSub, Int.reduceEq, Nat.reduceBEq, evB, tyA, ints_len]; (repeat (with_reducible refine And.intro ?_ ?_; exact sdX)); (with_reducible first | refine awp_id ?_ | refine id_call ?_ | refine id_and ?_ | refine id_ex ?_ | refine id_all ?_ | refine id_nat ?_ | refine id_le ?_))))
    exact awp_ret (ends_plain (.inr rfl) rfl (by simp (maxSteps := 4000000) only [↓reduceIte, Nat.reduceLT, Nat.reduceEqDiff, reduceCtorEq, Nat.reduceAdd, Nat.reduceMul, Int.reduceLE, Int.reduceLT, Int.reduceToNat, Nat.reduceLeDiff, Nat.reduceSub, Int.reduceEq, Nat.reduceBEq, evB]; rw [e]))
def ext (L : Nat) (w : List Int) : List (List Int) := (List.range L).map fun (a : Nat) => w ++ [(a : Int)]
def wdP (L : Nat) (W : List (List Int)) (k a : Nat) : List (List Int) := ((W.take k).flatMap (ext L)) ++ (ext L (W.getD k [])).take a
theorem wdP_zero (L : Nat) (W : List (List Int)) : wdP L W 0 0 = [] := by simp [wdP]
theorem wdP_step (L : Nat) (W : List (List Int)) (k a : Nat) (ha : a < L) : wdP L W k (a + 1) = wdP L W k a ++ [W.getD k [] ++ [(a : Int)]] := by
  have hlen : (ext L (W.getD k [])).length = L := by simp [ext]
  rw [wdP, wdP, take_snoc (by omega) [], ← List.append_assoc]
  congr 2
  have : a < (ext L (W.getD k [])).length := by omega
  rw [List.getD, List.getElem?_eq_getElem this]
  simp [ext]
theorem wdP_next (L : Nat) (W : List (List Int)) (k : Nat) (hk : k < W.length) : wdP L W (k + 1) 0 = wdP L W k L := by
  have hlen : (ext L (W.getD k [])).length = L := by simp [ext]
  rw [wdP, wdP, take_snoc hk [], List.flatMap_append, List.take_zero, List.append_nil, List.take_of_length_le (Nat.le_of_eq hlen)]
  rw [List.flatMap_cons, List.flatMap_nil, List.append_nil]
theorem wdP_all (L n : Nat) : wdP L (wordsL L n) (wordsL L n).length 0 = wordsL L (n + 1) := by
  rw [wdP, List.take_length, List.take_zero, List.append_nil]
  rfl
theorem wdP_len (L : Nat) (W : List (List Int)) (k a : Nat) (hk : k ≤ W.length) (ha : a ≤ L) : (wdP L W k a).length = k * L + a := by
  have key : ∀ l : List (List Int), (l.flatMap (ext L)).length = l.length * L := fun l => by
    induction l with
    | nil => simp
    | cons x l ih => simp [ih, ext, Nat.add_mul, Nat.add_comm]
  rw [wdP, List.length_append, key, List.length_take, List.length_take, Nat.min_eq_left hk]
  have : (ext L (W.getD k [])).length = L := by simp [ext]
  omega
theorem wordsL_bound {L n i : Nat} (hL : L ≤ 4) (hn : n ≤ 10) (hi : i ≤ n) : (wordsL L i).length ≤ 1048576 := by
  rw [wordsL_len]
  exact Nat.le_trans (Nat.pow_le_pow_left hL i) (Nat.le_trans (Nat.pow_le_pow_right (by decide) (show i ≤ 10 by omega)) (by decide))
set_option maxRecDepth 20000 in
set_option maxHeartbeats 16000000 in
theorem c_Words (L n : Nat) (hL : L ≤ 4) (hn : n ≤ 10) : Contract Try.prog 17 [i64 L, i64 n] (.sl false (iis (wordsL L n))) [] := by
  refine contract_of_awp (rs := [4]) Try.func17 rfl Try.ntmps17 (by simp) rfl fun E => ?_
  (repeat (first | refine awp_seq ?_ | refine awp_block ?_ | ((first | refine awp_skip ?_ | refine awp_exit ?_ | refine awp_reg ttok ?_ | (refine awp_draw ttok ?dr_calm ?_; (case dr_calm => decide +kernel)) | refine awp_condM ?_); simp (maxSteps := 4000000) only [↓reduceIte, Nat.reduceLT, Nat.reduceEqDiff, reduceCtorEq, Nat.reduceAdd, Nat.reduceMul, Int.reduceLE, Int.reduceLT, Int.reduceToNat, Nat.reduceLeDiff, Nat.reduceSub, Int.reduceEq, Nat.reduceBEq, evB, tyA]; (repeat (with_reducible refine And.intro ?_ ?_; exact sdX)); (with_reducible first | refine awp_id ?_ | refine id_call ?_ | refine id_and ?_ | refine id_ex ?_ | refine id_all ?_ | refine id_nat ?_ | refine id_le ?_))))
  refine awp_swap 2001 70001 ?_
  refine awp_loop (X := Nat) (fun i => mkS 43 [(0, i64 L), (1, i64 n), (5, .own 70001 0 (wordsL L i).length), (6, i64 i)] [(70001, { sz := 1, rows := iis (wordsL L i) })]) (fun i => i ≤ n) (fun i => n - i) 0 (Nat.zero_le _) (mkS_le rfl ?_ ?_) ?_
  · simp (maxSteps := 4000000) only [↓reduceIte, Nat.reduceLT, Nat.reduceEqDiff, reduceCtorEq, Nat.reduceAdd, Nat.reduceMul, Int.reduceLE, Int.reduceLT, Int.reduceToNat, Nat.reduceLeDiff, Nat.reduceSub, Int.reduceEq, Nat.reduceBEq, evB]
    exact ⟨rfl, rfl⟩
  · simp (maxSteps := 4000000) only [↓reduceIte, Nat.reduceLT, Nat.reduceEqDiff, reduceCtorEq, Nat.reduceAdd, Nat.reduceMul, Int.reduceLE, Int.reduceLT, Int.reduceToNat, Nat.reduceLeDiff, Nat.reduceSub, Int.reduceEq, Nat.reduceBEq, evB]
    try rfl
  · intro i hi
    by_cases hlt : i < n
    · have d1 : decide ((i : Int) < (n : Int)) = true := by simpa using hlt
      have hwl := wordsL_bound hL hn (Nat.le_of_lt hlt)
      have hall := wdP_all L i
      have hwk : ∀ k, k < (wordsL L i).length → ((wordsL L i).getD k []).length ≤ 10 := fun k hk => by
        have := (wordsL_mem (L := L) (n := i) (w := (wordsL L i).getD k [])).1 (by rw [List.getD, List.getElem?_eq_getElem hk]; exact List.getElem_mem _)
        omega
      generalize wordsL L i = W at *
      (repeat (first | refine awp_seq ?_ | refine awp_block ?_ | ((first | refine awp_skip ?_ | refine awp_exit ?_ | refine awp_reg ttok ?_ | (refine awp_draw ttok ?dr_calm ?_; (case dr_calm => decide +kernel)) | refine awp_condM ?_); simp (maxSteps := 4000000) only [↓reduceIte, Nat.reduceLT, Nat.reduceEqDiff, reduceCtorEq, Nat.reduceAdd, Nat.reduceMul, Int.reduceLE, Int.reduceLT, Int.reduceToNat, Nat.reduceLeDiff, Nat.reduceSub, Int.reduceEq, Nat.reduceBEq, evB, tyA, d1]; (repeat (with_reducible refine And.intro ?_ ?_; exact sdX)); (with_reducible first | refine awp_id ?_ | refine id_call ?_ | refine id_and ?_ | refine id_ex ?_ | refine id_all ?_ | refine id_nat ?_ | refine id_le ?_))))
      refine awp_loop (X := Nat) (fun k => mkS 43 [(0, i64 L), (1, i64 n), (5, .own 70001 0 W.length), (6, i64 i), (7, .own 6000 0 (wdP L W k 0).length), (8, i64 k)] [(70001, { sz := 1, rows := iis W }), (6000, { sz := 1, rows := iis (wdP L W k 0) })]) (fun k => k ≤ W.length) (fun k => W.length - k) 0 (Nat.zero_le _) (mkS_le rfl ?_ ?_) ?_
      · simp (maxSteps := 4000000) only [↓reduceIte, Nat.reduceLT, Nat.reduceEqDiff, reduceCtorEq, Nat.reduceAdd, Nat.reduceMul, Int.reduceLE, Int.reduceLT, Int.reduceToNat, Nat.reduceLeDiff, Nat.reduceSub, Int.reduceEq, Nat.reduceBEq, evB, wdP_zero]
        try rfl
      · simp (maxSteps := 4000000) only [↓reduceIte, Nat.reduceLT, Nat.reduceEqDiff, reduceCtorEq, Nat.reduceAdd, Nat.reduceMul, Int.reduceLE, Int.reduceLT, Int.reduceToNat, Nat.reduceLeDiff, Nat.reduceSub, Int.reduceEq, Nat.reduceBEq, evB, wdP_zero]
        try rfl
      · intro k hk
        by_cases hklt : k < W.length
        · have d2 : decide ((k : Int) < (W.length : Int)) = true := by simpa using hklt
          (repeat (first | refine awp_seq ?_ | refine awp_block ?_ | ((first | refine awp_skip ?_ | refine awp_exit ?_ | refine awp_reg ttok ?_ | (refine awp_draw ttok ?dr_calm ?_; (case dr_calm => decide +kernel)) | refine awp_condM ?_); simp (maxSteps := 4000000) only [↓reduceIte, Nat.reduceLT, Nat.reduceEqDiff, reduceCtorEq, Nat.reduceAdd, Nat.reduceMul, Int.reduceLE, Int.reduceLT, Int.reduceToNat, Nat.reduceLeDiff, Nat.reduceSub, Int.reduceEq, Nat.reduceBEq, evB, tyA, d2, iis_len]; (repeat (with_reducible refine And.intro ?_ ?_; exact sdX)); (with_reducible first | refine awp_id ?_ | refine id_call ?_ | refine id_and ?_ | refine id_ex ?_ | refine id_all ?_ | refine id_nat ?_ | refine id_le ?_))))
          refine awp_loop (X := Nat) (fun a => mkS 43 [(0, i64 L), (1, i64 n), (5, .own 70001 0 W.length), (6, i64 i), (7, .own 6000 0 (wdP L W k a).length), (8, i64 k), (9, i64 a)] [(70001, { sz := 1, rows := iis W }), (6000, { sz := 1, rows := iis (wdP L W k a) })]) (fun a => a ≤ L) (fun a => L - a) 0 (Nat.zero_le _) (mkS_le rfl ?_ ?_) ?_
          · simp (maxSteps := 4000000) only [↓reduceIte, Nat.reduceLT, Nat.reduceEqDiff, reduceCtorEq, Nat.reduceAdd, Nat.reduceMul, Int.reduceLE, Int.reduceLT, Int.reduceToNat, Nat.reduceLeDiff, Nat.reduceSub, Int.reduceEq, Nat.reduceBEq, evB]
            try rfl
          · simp (maxSteps := 4000000) only [↓reduceIte, Nat.reduceLT, Nat.reduceEqDiff, reduceCtorEq, Nat.reduceAdd, Nat.reduceMul, Int.reduceLE, Int.reduceLT, Int.reduceToNat, Nat.reduceLeDiff, Nat.reduceSub, Int.reduceEq, Nat.reduceBEq, evB]
            try rfl
          · intro a ha
            by_cases halt : a < L
            · have d3 : decide ((a : Int) < (L : Int)) = true := by simpa using halt
              have hwi : IntKind.i64.wrap ((a : Int) + 1) = ((a + 1 : Nat) : Int) := i64_in (by omega) (by omega)
              have hg := iis_get hklt
              have hpl := wdP_len L W k a hk ha
              have hkL : k * L ≤ 1048576 * 4 := Nat.mul_le_mul (by omega) hL
              have hst := wdP_step L W k a halt
              have htk : List.take (wdP L W k a).length (wdP L W k a) = wdP L W k a := List.take_of_length_le (Nat.le_refl _)
              generalize wdP L W k a = p at *
              have hwk := hwk k hklt
              generalize W.getD k [] = w at *
              have hap : ints w ++ [[i64 (a : Int)]] = ints (w ++ [(a : Int)]) := by simp [ints]
              have r1 : ∀ d : D, (∀ row ∈ [[d]], row.length = 1) = True := fun d => by simp
              have htl : List.take (w.length + 1) (w ++ [(a : Int)]) = w ++ [(a : Int)] := List.take_of_length_le (by simp)
              have hlp : (w ++ [(a : Int)]).length = w.length + 1 := by simp
              have hia : iis p ++ [[D.sl false (ints (w ++ [(a : Int)]))]] = iis (p ++ [w ++ [(a : Int)]]) := by simp [iis]
              have hl1 : (p ++ [w ++ [(a : Int)]]).length = k * L + a + 1 := by simp [hpl]
              rw [hpl] at htk
              (repeat (first | refine awp_seq ?_ | refine awp_block ?_ | ((first | refine awp_skip ?_ | refine awp_exit ?_ | refine awp_reg ttok ?_ | (refine awp_draw ttok ?dr_calm ?_; (case dr_calm => decide +kernel)) | refine awp_condM ?_); simp (maxSteps := 4000000) only [↓reduceIte, Nat.reduceLT, Nat.reduceEqDiff, reduceCtorEq, Nat.reduceAdd, Nat.reduceMul, Int.reduceLE, Int.reduceLT, Int.reduceToNat, Nat.reduceLeDiff, Nat.reduceSub, Int.reduceEq, Nat.reduceBEq, evB, tyA, d3, iis_len, hg, hpl, iis_take, htk, iis_row, List.take_length, hap, ints_take, htl, ints_len, r1, hwi, hlp, hia]; (repeat (with_reducible refine And.intro ?_ ?_; exact sdX)); (with_reducible first | refine awp_id ?_ | refine id_call ?_ | refine id_and ?_ | refine id_ex ?_ | refine id_all ?_ | refine id_nat ?_ | refine id_le ?_))))
              refine ⟨a + 1, by omega, by omega, mkS_le rfl ?_ ?_⟩
              · simp (maxSteps := 4000000) only [↓reduceIte, Nat.reduceLT, Nat.reduceEqDiff, reduceCtorEq, Nat.reduceAdd, Nat.reduceMul, Int.reduceLE, Int.reduceLT, Int.reduceToNat, Nat.reduceLeDiff, Nat.reduceSub, Int.reduceEq, Nat.reduceBEq, evB, hst, hl1]
              · simp (maxSteps := 4000000) only [↓reduceIte, Nat.reduceLT, Nat.reduceEqDiff, reduceCtorEq, Nat.reduceAdd, Nat.reduceMul, Int.reduceLE, Int.reduceLT, Int.reduceToNat, Nat.reduceLeDiff, Nat.reduceSub, Int.reduceEq, Nat.reduceBEq, evB, hst, hia, htk]
            · have d3 : decide ((a : Int) < (L : Int)) = false := by simpa using halt
              obtain rfl : a = L := by omega
              have hwi : IntKind.i64.wrap ((k : Int) + 1) = ((k + 1 : Nat) : Int) := i64_in (by omega) (by omega)
              (repeat (first | refine awp_seq ?_ | refine awp_block ?_ | ((first | refine awp_skip ?_ | refine awp_exit ?_ | refine awp_reg ttok ?_ | (refine awp_draw ttok ?dr_calm ?_; (case dr_calm => decide +kernel)) | refine awp_condM ?_); simp (maxSteps := 4000000) only [↓reduceIte, Nat.reduceLT, Nat.reduceEqDiff, reduceCtorEq, Nat.reduceAdd, Nat.reduceMul, Int.reduceLE, Int.reduceLT, Int.reduceToNat, Nat.reduceLeDiff, Nat.reduceSub, Int.reduceEq, Nat.reduceBEq, evB, tyA, d3, hwi]; (repeat (with_reducible refine And.intro ?_ ?_; exact sdX)); (with_reducible first | refine awp_id ?_ | refine id_call ?_ | refine id_and ?_ | refine id_ex ?_ | refine id_all ?_ | refine id_nat ?_ | refine id_le ?_))))
              refine ⟨k + 1, by omega, by omega, mkS_le rfl ?_ ?_⟩
              · simp (maxSteps := 4000000) only [↓reduceIte, Nat.reduceLT, Nat.reduceEqDiff, reduceCtorEq, Nat.reduceAdd, Nat.reduceMul, Int.reduceLE, Int.reduceLT, Int.reduceToNat, Nat.reduceLeDiff, Nat.reduceSub, Int.reduceEq, Nat.reduceBEq, evB, wdP_next a W k hklt]
              · simp (maxSteps := 4000000) only [↓reduceIte, Nat.reduceLT, Nat.reduceEqDiff, reduceCtorEq, Nat.reduceAdd, Nat.reduceMul, Int.reduceLE, Int.reduceLT, Int.reduceToNat, Nat.reduceLeDiff, Nat.reduceSub, Int.reduceEq, Nat.reduceBEq, evB, wdP_next a W k hklt]
        · have d2 : decide ((k : Int) < (W.length : Int)) = false := by simpa using hklt
          obtain rfl : k = W.length := by omega
          have hwi : IntKind.i64.wrap ((i : Int) + 1) = ((i + 1 : Nat) : Int) := i64_in (by omega) (by omega)
          rw [hall]
          ((repeat (first | refine awp_seq ?_ | refine awp_block ?_)); ((first | refine awp_skip ?_ | refine awp_exit ?_ | refine awp_reg ttok ?_ | (refine awp_draw ttok ?dr_calm ?_; (case dr_calm => decide +kernel)) | refine awp_condM ?_); simp (maxSteps := 4000000) only [↓reduceIte, Nat.reduceLT, Nat.reduceEqDiff, reduceCtorEq, Nat.reduceAdd, Nat.reduceMul, Int.reduceLE, Int.reduceLT, Int.reduceToNat, Nat.reduceLeDiff, Nat.reduceSub, Int.reduceEq, Nat.reduceBEq, evB, tyA, d2, iis_len]; (repeat (with_reducible refine And.intro ?_ ?_; exact sdX)); (with_reducible first | refine awp_id ?_ | refine id_call ?_ | refine id_and ?_ | refine id_ex ?_ | refine id_all ?_ | refine id_nat ?_ | refine id_le ?_)))
          ((repeat (first | refine awp_seq ?_ | refine awp_block ?_)); ((first | refine awp_skip ?_ | refine awp_exit ?_ | refine awp_reg ttok ?_ | (refine awp_draw ttok ?dr_calm ?_; (case dr_calm => decide +kernel)) | refine awp_condM ?_); simp (maxSteps := 4000000) only [↓reduceIte, Nat.reduceLT, Nat.reduceEqDiff, reduceCtorEq, Nat.reduceAdd, Nat.reduceMul, Int.reduceLE, Int.reduceLT, Int.reduceToNat, Nat.reduceLeDiff, Nat.reduceSub, Int.reduceEq, Nat.reduceBEq, evB, tyA]; (repeat (with_reducible refine And.intro ?_ ?_; exact sdX)); (with_reducible first | refine awp_id ?_ | refine id_call ?_ | refine id_and ?_ | refine id_ex ?_ | refine id_all ?_ | refine id_nat ?_ | refine id_le ?_)))
          ((repeat (first | refine awp_seq ?_ | refine awp_block ?_)); ((first | refine awp_skip ?_ | refine awp_exit ?_ | refine awp_reg ttok ?_ | (refine awp_draw ttok ?dr_calm ?_; (case dr_calm => decide +kernel)) | refine awp_condM ?_); simp (maxSteps := 4000000) only [↓reduceIte, Nat.reduceLT, Nat.reduceEqDiff, reduceCtorEq, Nat.reduceAdd, Nat.reduceMul, Int.reduceLE, Int.reduceLT, Int.reduceToNat, Nat.reduceLeDiff, Nat.reduceSub, Int.reduceEq, Nat.reduceBEq, evB, tyA]; (repeat (with_reducible refine And.intro ?_ ?_; exact sdX)); (with_reducible first | refine awp_id ?_ | refine id_call ?_ | refine id_and ?_ | refine id_ex ?_ | refine id_all ?_ | refine id_nat ?_ | refine id_le ?_)))
          refine awp_swap 6000 70001 ?_
          (repeat (first | refine awp_seq ?_ | refine awp_block ?_ | ((first | refine awp_skip ?_ | refine awp_exit ?_ | refine awp_reg ttok ?_ | (refine awp_draw ttok ?dr_calm ?_; (case dr_calm => decide +kernel)) | refine awp_condM ?_); simp (maxSteps := 4000000) only [↓reduceIte, Nat.reduceLT, Nat.reduceEqDiff, reduceCtorEq, Nat.reduceAdd, Nat.reduceMul, Int.reduceLE, Int.reduceLT, Int.reduceToNat, Nat.reduceLeDiff, Nat.reduceSub, Int.reduceEq, Nat.reduceBEq, evB, tyA, hwi]; (repeat (with_reducible refine And.intro ?_ ?_; exact sdX)); (with_reducible first | refine awp_id ?_ | refine id_call ?_ | refine id_and ?_ | refine id_ex ?_ | refine id_all ?_ | refine id_nat ?_ | refine id_le ?_))))
          refine ⟨i + 1, by omega, by omega, mkS_le rfl ?_ ?_⟩
          · simp (maxSteps := 4000000) only [↓reduceIte, Nat.reduceLT, Nat.reduceEqDiff, reduceCtorEq, Nat.reduceAdd, Nat.reduceMul, Int.reduceLE, Int.reduceLT, Int.reduceToNat, Nat.reduceLeDiff, Nat.reduceSub, Int.reduceEq, Nat.reduceBEq, evB]
            try rfl
          · simp (maxSteps := 4000000) only [↓reduceIte, Nat.reduceLT, Nat.reduceEqDiff, reduceCtorEq, Nat.reduceAdd, Nat.reduceMul, Int.reduceLE, Int.reduceLT, Int.reduceToNat, Nat.reduceLeDiff, Nat.reduceSub, Int.reduceEq, Nat.reduceBEq, evB]
            try rfl
    · have d1 : decide ((i : Int) < (n : Int)) = false := by simpa using hlt
      obtain rfl : i = n := by omega
      (repeat (first | refine awp_seq ?_ | refine awp_block ?_ | ((first | refine awp_skip ?_ | refine awp_exit ?_ | refine awp_reg ttok ?_ | (refine awp_draw ttok ?dr_calm ?_; (case dr_calm => decide +kernel)) | refine awp_condM ?_); simp (maxSteps := 4000000) only [↓reduceIte, Nat.reduceLT, Nat.reduceEqDiff, reduceCtorEq, Nat.reduceAdd, Nat.reduceMul, Int.reduceLE, Int.reduceLT, Int.reduceToNat, Nat.reduceLeDiff, Nat.reduceSub, Int.reduceEq, Nat.reduceBEq, evB, tyA, d1]; (repeat (with_reducible refine And.intro ?_ ?_; exact sdX)); (with_reducible first | refine awp_id ?_ | refine id_call ?_ | refine id_and ?_ | refine id_ex ?_ | refine id_all ?_ | refine id_nat ?_ | refine id_le ?_))))
      refine awp_pure 4 (d := .own 70001 0 (wordsL L i).length) evX (by simp (maxSteps := 4000000) only [↓reduceIte, Nat.reduceLT, Nat.reduceEqDiff, reduceCtorEq, Nat.reduceAdd, Nat.reduceMul, Int.reduceLE, Int.reduceLT, Int.reduceToNat, Nat.reduceLeDiff, Nat.reduceSub, Int.reduceEq, Nat.reduceBEq, evB]; rfl) (by simp (maxSteps := 4000000) only [↓reduceIte, Nat.reduceLT, Nat.reduceEqDiff, reduceCtorEq, Nat.reduceAdd, Nat.reduceMul, Int.reduceLE, Int.reduceLT, Int.reduceToNat, Nat.reduceLeDiff, Nat.reduceSub, Int.reduceEq, Nat.reduceBEq, evB, iis_len]) ?_
      have hft : List.take (wordsL L i).length (wordsL L i) = wordsL L i := List.take_of_length_le (Nat.le_refl _)
      refine awp_ret (ends_plain (.inr rfl) rfl ?_)
      simp (maxSteps := 4000000) only [↓reduceIte, Nat.reduceLT, Nat.reduceEqDiff, reduceCtorEq, Nat.reduceAdd, Nat.reduceMul, Int.reduceLE, Int.reduceLT, Int.reduceToNat, Nat.reduceLeDiff, Nat.reduceSub, Int.reduceEq, Nat.reduceBEq, evB, iis_take, hft]
def uptoP (L : Nat) : Nat → List (List Int)
  | 0 => []
  | i + 1 => uptoP L i ++ wordsL L i
theorem uptoP_all (L : Nat) : ∀ n, uptoP L (n + 1) = uptoL L n
  | 0 => by simp [uptoP, uptoL]
  | n + 1 => by rw [uptoP, uptoP_all L n, uptoL]
theorem uptoP_len {L n : Nat} (hL : L ≤ 4) (hn : n ≤ 10) : ∀ i, i ≤ n + 1 → (uptoP L i).length ≤ i * 1048576
  | 0, _ => by simp [uptoP]
  | i + 1, hi => by
    have := uptoP_len hL hn i (by omega)
    have := wordsL_bound hL hn (show i ≤ n by omega)
    rw [uptoP, List.length_append]; omega
set_option maxRecDepth 20000 in
set_option maxHeartbeats 16000000 in
theorem c_Upto (L n : Nat) (hL : L ≤ 4) (hn : n ≤ 10) : Contract Try.prog 8 [i64 L, i64 n] (.sl false (iis (uptoL L n))) [] := by
  refine contract_of_awp (rs := [4]) Try.func8 rfl Try.ntmps8 (by simp) rfl fun E => ?_
  (repeat (first | refine awp_seq ?_ | refine awp_block ?_ | ((first | refine awp_skip ?_ | refine awp_exit ?_ | refine awp_reg ttok ?_ | (refine awp_draw ttok ?dr_calm ?_; (case dr_calm => decide +kernel)) | refine awp_condM ?_); simp (maxSteps := 4000000) only [↓reduceIte, Nat.reduceLT, Nat.reduceEqDiff, reduceCtorEq, Nat.reduceAdd, Nat.reduceMul, Int.reduceLE, Int.reduceLT, Int.reduceToNat, Nat.reduceLeDiff, Nat.reduceSub, Int.reduceEq, Nat.reduceBEq, evB, tyA]; (repeat (with_reducible refine And.intro ?_ ?_; exact sdX)); (with_reducible first | refine awp_id ?_ | refine id_call ?_ | refine id_and ?_ | refine id_ex ?_ | refine id_all ?_ | refine id_nat ?_ | refine id_le ?_))))
  refine awp_loop (X := Nat) (fun i => mkS 19 [(0, i64 L), (1, i64 n), (5, .own 2000 0 (uptoP L i).length), (6, i64 i)] [(2000, { sz := 1, rows := iis (uptoP L i) })]) (fun i => i ≤ n + 1) (fun i => n + 1 - i) 0 (Nat.zero_le _) (mkS_le rfl ?_ ?_) ?_
  · simp (maxSteps := 4000000) only [↓reduceIte, Nat.reduceLT, Nat.reduceEqDiff, reduceCtorEq, Nat.reduceAdd, Nat.reduceMul, Int.reduceLE, Int.reduceLT, Int.reduceToNat, Nat.reduceLeDiff, Nat.reduceSub, Int.reduceEq, Nat.reduceBEq, evB]
    exact ⟨rfl, rfl⟩
  · simp (maxSteps := 4000000) only [↓reduceIte, Nat.reduceLT, Nat.reduceEqDiff, reduceCtorEq, Nat.reduceAdd, Nat.reduceMul, Int.reduceLE, Int.reduceLT, Int.reduceToNat, Nat.reduceLeDiff, Nat.reduceSub, Int.reduceEq, Nat.reduceBEq, evB]
    try rfl
  · intro i hi
    have hpl := uptoP_len hL hn i hi
    have hall := uptoP_all L n
    by_cases hlt : i ≤ n
    · have d1 : decide ((i : Int) ≤ (n : Int)) = true := by simpa using hlt
      have hwi : IntKind.i64.wrap ((i : Int) + 1) = ((i + 1 : Nat) : Int) := i64_in (by omega) (by omega)
      have hwl := wordsL_bound hL hn hlt
      have hnx : uptoP L (i + 1) = uptoP L i ++ wordsL L i := rfl
      have hc := c_Words L i hL (by omega)
      generalize wordsL L i = W at *
      generalize uptoP L i = p at *
      (repeat (first | refine awp_seq ?_ | refine awp_block ?_ | ((first | refine awp_skip ?_ | refine awp_exit ?_ | refine awp_reg ttok ?_ | (refine awp_draw ttok ?dr_calm ?_; (case dr_calm => decide +kernel)) | refine awp_condM ?_); simp (maxSteps := 4000000) only [↓reduceIte, Nat.reduceLT, Nat.reduceEqDiff, reduceCtorEq, Nat.reduceAdd, Nat.reduceMul, Int.reduceLE, Int.reduceLT, Int.reduceToNat, Nat.reduceLeDiff, Nat.reduceSub, Int.reduceEq, Nat.reduceBEq, evB, tyA, d1]; (repeat (with_reducible refine And.intro ?_ ?_; exact sdX)); (with_reducible first | refine awp_id ?_ | refine id_call ?_ | refine id_and ?_ | refine id_ex ?_ | refine id_all ?_ | refine id_nat ?_ | refine id_le ?_))))
      refine callVC_mk fnok17 hc rfl ?_
      have hll : (p ++ W).length = p.length + W.length := by simp
      simp (maxSteps := 4000000) only [↓reduceIte, Nat.reduceLT, Nat.reduceEqDiff, reduceCtorEq, Nat.reduceAdd, Nat.reduceMul, Int.reduceLE, Int.reduceLT, Int.reduceToNat, Nat.reduceLeDiff, Nat.reduceSub, Int.reduceEq, Nat.reduceBEq, evB, tyA, iis_len, iis_row, iis_take, List.take_length, iis_app]
      (repeat (with_reducible refine And.intro ?_ ?_; exact sdX))
      (repeat (first | refine awp_seq ?_ | refine awp_block ?_ | ((first | refine awp_skip ?_ | refine awp_exit ?_ | refine awp_reg ttok ?_ | (refine awp_draw ttok ?dr_calm ?_; (case dr_calm => decide +kernel)) | refine awp_condM ?_); simp (maxSteps := 4000000) only [↓reduceIte, Nat.reduceLT, Nat.reduceEqDiff, reduceCtorEq, Nat.reduceAdd, Nat.reduceMul, Int.reduceLE, Int.reduceLT, Int.reduceToNat, Nat.reduceLeDiff, Nat.reduceSub, Int.reduceEq, Nat.reduceBEq, evB, tyA, hwi]; (repeat (with_reducible refine And.intro ?_ ?_; exact sdX)); (with_reducible first | refine awp_id ?_ | refine id_call ?_ | refine id_and ?_ | refine id_ex ?_ | refine id_all ?_ | refine id_nat ?_ | refine id_le ?_))))
      refine ⟨i + 1, by omega, by omega, mkS_le rfl ?_ ?_⟩
      · simp (maxSteps := 4000000) only [↓reduceIte, Nat.reduceLT, Nat.reduceEqDiff, reduceCtorEq, Nat.reduceAdd, Nat.reduceMul, Int.reduceLE, Int.reduceLT, Int.reduceToNat, Nat.reduceLeDiff, Nat.reduceSub, Int.reduceEq, Nat.reduceBEq, evB, hnx, hll]
      · simp (maxSteps := 4000000) only [↓reduceIte, Nat.reduceLT, Nat.reduceEqDiff, reduceCtorEq, Nat.reduceAdd, Nat.reduceMul, Int.reduceLE, Int.reduceLT, Int.reduceToNat, Nat.reduceLeDiff, Nat.reduceSub, Int.reduceEq, Nat.reduceBEq, evB, hnx]
    · have d1 : decide ((i : Int) ≤ (n : Int)) = false := by simpa using hlt
      obtain rfl : i = n + 1 := by omega
      rw [hall] at hpl ⊢
      (repeat (first | refine awp_seq ?_ | refine awp_block ?_ | ((first | refine awp_skip ?_ | refine awp_exit ?_ | refine awp_reg ttok ?_ | (refine awp_draw ttok ?dr_calm ?_; (case dr_calm => decide +kernel)) | refine awp_condM ?_); simp (maxSteps := 4000000) only [↓reduceIte, Nat.reduceLT, Nat.reduceEqDiff, reduceCtorEq, Nat.reduceAdd, Nat.reduceMul, Int.reduceLE, Int.reduceLT, Int.reduceToNat, Nat.reduceLeDiff, Nat.reduceSub, Int.reduceEq, Nat.reduceBEq, evB, tyA, d1]; (repeat (with_reducible refine And.intro ?_ ?_; exact sdX)); (with_reducible first | refine awp_id ?_ | refine id_call ?_ | refine id_and ?_ | refine id_ex ?_ | refine id_all ?_ | refine id_nat ?_ | refine id_le ?_))))
      refine awp_pure 4 (d := .own 2000 0 (uptoL L n).length) evX (by simp (maxSteps := 4000000) only [↓reduceIte, Nat.reduceLT, Nat.reduceEqDiff, reduceCtorEq, Nat.reduceAdd, Nat.reduceMul, Int.reduceLE, Int.reduceLT, Int.reduceToNat, Nat.reduceLeDiff, Nat.reduceSub, Int.reduceEq, Nat.reduceBEq, evB]; rfl) (by simp (maxSteps := 4000000) only [↓reduceIte, Nat.reduceLT, Nat.reduceEqDiff, reduceCtorEq, Nat.reduceAdd, Nat.reduceMul, Int.reduceLE, Int.reduceLT, Int.reduceToNat, Nat.reduceLeDiff, Nat.reduceSub, Int.reduceEq, Nat.reduceBEq, evB, iis_len]) ?_
      refine awp_ret (ends_plain (.inr rfl) rfl ?_)
      simp (maxSteps := 4000000) only [↓reduceIte, Nat.reduceLT, Nat.reduceEqDiff, reduceCtorEq, Nat.reduceAdd, Nat.reduceMul, Int.reduceLE, Int.reduceLT, Int.reduceToNat, Nat.reduceLeDiff, Nat.reduceSub, Int.reduceEq, Nat.reduceBEq, evB, iis_take, List.take_length]
theorem runD_append {N : List (List Int)} : ∀ {u v : List Int} {s : Int}, runD N s (u ++ v) = runD N (runD N s u) v
  | [], v, s => rfl
  | k :: u, v, s => by
    rw [List.cons_append, runD, runD]
    by_cases h : s < 0
    · rw [if_pos h, if_pos h, runD_neg h]
    · rw [if_neg h, if_neg h, runD_append]
theorem runD_stop {N : List (List Int)} {w : List Int} {n : Nat} {s : Int} (h : runD N s (w.take n) < 0) : runD N s w = runD N s (w.take n) := by
  conv => lhs; rw [← List.take_append_drop n w]
  rw [runD_append, runD_neg h]
theorem runD_next {N : List (List Int)} {w : List Int} {n : Nat} {s : Int} (hn : n < w.length) (h : 0 ≤ runD N s (w.take n)) : runD N s (w.take (n + 1)) = toD N (runD N s (w.take n)) (w.getD n 0) := by
  have e : w.take (n + 1) = w.take n ++ [w.getD n 0] := by
    rw [List.take_add_one, List.getElem?_eq_getElem hn]
    simp [List.getD, List.getElem?_eq_getElem hn]
  rw [e, runD_app, if_neg (by omega)]
theorem toD_bad {L k : Nat} {N : List (List Int)} (h : NOk L k N) {s c : Int} (hs : 0 ≤ s) (hb : c < 0 ∨ (L : Int) ≤ c ∨ (k : Int) ≤ s) : toD N s c = -1 := by
  unfold toD
  split
  · rfl
  · rename_i hn
    have hl := h.len
    have := (h.get (s := s.toNat) (by omega)).1
    omega
theorem toD_good {L k : Nat} {N : List (List Int)} (h : NOk L k N) {s c : Nat} (hs : s < k) (hc : c < L) : toD N s c = (N.getD s []).getD c 0 := by
  have hl := h.len
  have := (h.get hs).1
  unfold toD
  rw [if_neg (by rw [Int.toNat_natCast]; omega), Int.toNat_natCast, Int.toNat_natCast]
set_option maxRecDepth 20000 in
set_option maxHeartbeats 16000000 in
theorem c_RunG {L k : Nat} {N : List (List Int)} (h : NOk L k N) (st : Nat) (F : List Bool) (hL : L ≤ 2000) (hk : 1 ≤ k ∧ k ≤ 2000) (s : Int) (hs : -9223372036854775808 ≤ s ∧ s ≤ 9223372036854775807) (f : Bool) (w : List Int) (hw : w.length ≤ 9223372036854775806) :
    Contract Try.prog 18 [dfaD L st F N, i64 s, .sl f (ints w)] (i64 (runD N s w)) [] := by
  refine contract_of_awp (rs := [6]) Try.func18 rfl Try.ntmps18 (by simp) rfl fun E => ?_
  have hl := h.len
  (repeat (first | refine awp_seq ?_ | refine awp_block ?_ | ((first | refine awp_skip ?_ | refine awp_exit ?_ | refine awp_reg ttok ?_ | (refine awp_draw ttok ?dr_calm ?_; (case dr_calm => decide +kernel)) | refine awp_condM ?_); simp (maxSteps := 4000000) only [↓reduceIte, Nat.reduceLT, Nat.reduceEqDiff, reduceCtorEq, Nat.reduceAdd, Nat.reduceMul, Int.reduceLE, Int.reduceLT, Int.reduceToNat, Nat.reduceLeDiff, Nat.reduceSub, Int.reduceEq, Nat.reduceBEq, evB, tyA, dfaD]; (repeat (with_reducible refine And.intro ?_ ?_; exact sdX)); (with_reducible first | refine awp_id ?_ | refine id_call ?_ | refine id_and ?_ | refine id_ex ?_ | refine id_all ?_ | refine id_nat ?_ | refine id_le ?_))))
  refine awp_loop (X := Nat) (fun n => mkS 64 [(1, i64 (runD N s (w.take n))), (2, .sl f (ints w)), (3, .ptr 1000 0 0), (7, i64 n)] [(1000, { sz := 4, rows := [[i64 L, i64 st, .sl false (bos F), .sl false (iis N)]], flat := false })]) (fun n => n ≤ w.length) (fun n => w.length - n) 0 (Nat.zero_le _) (mkS_le rfl ?_ ?_) ?_
  · simp (maxSteps := 4000000) only [↓reduceIte, Nat.reduceLT, Nat.reduceEqDiff, reduceCtorEq, Nat.reduceAdd, Nat.reduceMul, Int.reduceLE, Int.reduceLT, Int.reduceToNat, Nat.reduceLeDiff, Nat.reduceSub, Int.reduceEq, Nat.reduceBEq, evB, runD]
    try rfl
  · simp (maxSteps := 4000000) only [↓reduceIte, Nat.reduceLT, Nat.reduceEqDiff, reduceCtorEq, Nat.reduceAdd, Nat.reduceMul, Int.reduceLE, Int.reduceLT, Int.reduceToNat, Nat.reduceLeDiff, Nat.reduceSub, Int.reduceEq, Nat.reduceBEq, evB]
    try rfl
  · intro n hn
    have hwi : IntKind.i64.wrap ((n : Int) + 1) = ((n + 1 : Nat) : Int) := i64_in (by omega) (by omega)
    by_cases hlt : n < w.length
    · have d1 : decide ((n : Int) < (w.length : Int)) = true := by simpa using hlt
      have hnx := runD_next (N := N) (s := s) hlt
      have hst := runD_stop (N := N) (s := s) (w := w) (n := n)
      have hst1 := runD_stop (N := N) (s := s) (w := w) (n := n + 1)
      generalize hZ : runD N s (w.take n) = Z at *
      by_cases hz : 0 ≤ Z
      · have d2 : decide (0 ≤ Z) = true := by simpa using hz
        have hnx := hnx hz
        rw [hnx] at hst1
        have hgw := ints_get hlt
        generalize w.getD n 0 = x at *
        by_cases hb : x < 0 ∨ (L : Int) ≤ x ∨ (k : Int) ≤ Z
        · have hbad := toD_bad h hz hb
          have hres : runD N s w = -1 := by rw [hst1 (by omega), hbad]
          by_cases b1 : x < 0
          · have e1 : decide (x < 0) = true := by simpa using b1
            (repeat (first | refine awp_seq ?_ | refine awp_block ?_ | ((first | refine awp_skip ?_ | refine awp_exit ?_ | refine awp_reg ttok ?_ | (refine awp_draw ttok ?dr_calm ?_; (case dr_calm => decide +kernel)) | refine awp_condM ?_); simp (maxSteps := 4000000) only [↓reduceIte, Nat.reduceLT, Nat.reduceEqDiff, reduceCtorEq, Nat.reduceAdd, Nat.reduceMul, Int.reduceLE, Int.reduceLT, Int.reduceToNat, Nat.reduceLeDiff, Nat.reduceSub, Int.reduceEq, Nat.reduceBEq, evB, tyA, d1, d2, ints_len, hgw, e1]; (repeat (with_reducible refine And.intro ?_ ?_; exact sdX)); (with_reducible first | refine awp_id ?_ | refine id_call ?_ | refine id_and ?_ | refine id_ex ?_ | refine id_all ?_ | refine id_nat ?_ | refine id_le ?_))))
            exact awp_ret (ends_plain (.inr rfl) rfl (by simp (maxSteps := 4000000) only [↓reduceIte, Nat.reduceLT, Nat.reduceEqDiff, reduceCtorEq, Nat.reduceAdd, Nat.reduceMul, Int.reduceLE, Int.reduceLT, Int.reduceToNat, Nat.reduceLeDiff, Nat.reduceSub, Int.reduceEq, Nat.reduceBEq, evB, hres]))
          · have e1 : decide (x < 0) = false := by simpa using b1
            by_cases b2 : (L : Int) ≤ x
            · have e2 : decide ((L : Int) ≤ x) = true := by simpa using b2
              (repeat (first | refine awp_seq ?_ | refine awp_block ?_ | ((first | refine awp_skip ?_ | refine awp_exit ?_ | refine awp_reg ttok ?_ | (refine awp_draw ttok ?dr_calm ?_; (case dr_calm => decide +kernel)) | refine awp_condM ?_); simp (maxSteps := 4000000) only [↓reduceIte, Nat.reduceLT, Nat.reduceEqDiff, reduceCtorEq, Nat.reduceAdd, Nat.reduceMul, Int.reduceLE, Int.reduceLT, Int.reduceToNat, Nat.reduceLeDiff, Nat.reduceSub, Int.reduceEq, Nat.reduceBEq, evB, tyA, d1, d2, ints_len, hgw, e1, e2]; (repeat (with_reducible refine And.intro ?_ ?_; exact sdX)); (with_reducible first | refine awp_id ?_ | refine id_call ?_ | refine id_and ?_ | refine id_ex ?_ | refine id_all ?_ | refine id_nat ?_ | refine id_le ?_))))
              exact awp_ret (ends_plain (.inr rfl) rfl (by simp (maxSteps := 4000000) only [↓reduceIte, Nat.reduceLT, Nat.reduceEqDiff, reduceCtorEq, Nat.reduceAdd, Nat.reduceMul, Int.reduceLE, Int.reduceLT, Int.reduceToNat, Nat.reduceLeDiff, Nat.reduceSub, Int.reduceEq, Nat.reduceBEq, evB, hres]))
            · have e2 : decide ((L : Int) ≤ x) = false := by simpa using b2
              have e3 : decide ((k : Int) ≤ Z) = true := by simp; omega
              (repeat (first | refine awp_seq ?_ | refine awp_block ?_ | ((first | refine awp_skip ?_ | refine awp_exit ?_ | refine awp_reg ttok ?_ | (refine awp_draw ttok ?dr_calm ?_; (case dr_calm => decide +kernel)) | refine awp_condM ?_); simp (maxSteps := 4000000) only [↓reduceIte, Nat.reduceLT, Nat.reduceEqDiff, reduceCtorEq, Nat.reduceAdd, Nat.reduceMul, Int.reduceLE, Int.reduceLT, Int.reduceToNat, Nat.reduceLeDiff, Nat.reduceSub, Int.reduceEq, Nat.reduceBEq, evB, tyA, d1, d2, ints_len, hgw, e1, e2, iis_len, hl, e3]; (repeat (with_reducible refine And.intro ?_ ?_; exact sdX)); (with_reducible first | refine awp_id ?_ | refine id_call ?_ | refine id_and ?_ | refine id_ex ?_ | refine id_all ?_ | refine id_nat ?_ | refine id_le ?_))))
              exact awp_ret (ends_plain (.inr rfl) rfl (by simp (maxSteps := 4000000) only [↓reduceIte, Nat.reduceLT, Nat.reduceEqDiff, reduceCtorEq, Nat.reduceAdd, Nat.reduceMul, Int.reduceLE, Int.reduceLT, Int.reduceToNat, Nat.reduceLeDiff, Nat.reduceSub, Int.reduceEq, Nat.reduceBEq, evB, hres]))
        · obtain ⟨z, rfl⟩ := Int.eq_ofNat_of_zero_le hz
          obtain ⟨c, rfl⟩ := Int.eq_ofNat_of_zero_le (show 0 ≤ x by omega)
          have hzk : z < k := by omega
          have hcL : c < L := by omega
          have hgd := toD_good h hzk hcL
          have hrl := (h.get hzk).1
          have hgi := iis_get (l := N) (i := z) (by omega)
          have hgc := ints_get (l := N.getD z []) (i := c) (by omega)
          have e1 : decide (((c : Nat) : Int) < 0) = false := by simp
          have e2 : decide ((L : Int) ≤ ((c : Nat) : Int)) = false := by simp; omega
          have e3 : decide ((k : Int) ≤ ((z : Nat) : Int)) = false := by simp; omega
          (repeat (first | refine awp_seq ?_ | refine awp_block ?_ | ((first | refine awp_skip ?_ | refine awp_exit ?_ | refine awp_reg ttok ?_ | (refine awp_draw ttok ?dr_calm ?_; (case dr_calm => decide +kernel)) | refine awp_condM ?_); simp (maxSteps := 4000000) only [↓reduceIte, Nat.reduceLT, Nat.reduceEqDiff, reduceCtorEq, Nat.reduceAdd, Nat.reduceMul, Int.reduceLE, Int.reduceLT, Int.reduceToNat, Nat.reduceLeDiff, Nat.reduceSub, Int.reduceEq, Nat.reduceBEq, evB, tyA, d1, d2, ints_len, hgw, e1, e2, iis_len, hl, e3, hgi, hrl, hgc, hwi]; (repeat (with_reducible refine And.intro ?_ ?_; exact sdX)); (with_reducible first | refine awp_id ?_ | refine id_call ?_ | refine id_and ?_ | refine id_ex ?_ | refine id_all ?_ | refine id_nat ?_ | refine id_le ?_))))
          refine ⟨n + 1, by omega, by omega, mkS_le rfl ?_ ?_⟩
          · simp (maxSteps := 4000000) only [↓reduceIte, Nat.reduceLT, Nat.reduceEqDiff, reduceCtorEq, Nat.reduceAdd, Nat.reduceMul, Int.reduceLE, Int.reduceLT, Int.reduceToNat, Nat.reduceLeDiff, Nat.reduceSub, Int.reduceEq, Nat.reduceBEq, evB, hnx, hgd]
          · exact evX
      · have d2 : decide (0 ≤ Z) = false := by simpa using hz
        have hres := hst (by omega)
        (repeat (first | refine awp_seq ?_ | refine awp_block ?_ | ((first | refine awp_skip ?_ | refine awp_exit ?_ | refine awp_reg ttok ?_ | (refine awp_draw ttok ?dr_calm ?_; (case dr_calm => decide +kernel)) | refine awp_condM ?_); simp (maxSteps := 4000000) only [↓reduceIte, Nat.reduceLT, Nat.reduceEqDiff, reduceCtorEq, Nat.reduceAdd, Nat.reduceMul, Int.reduceLE, Int.reduceLT, Int.reduceToNat, Nat.reduceLeDiff, Nat.reduceSub, Int.reduceEq, Nat.reduceBEq, evB, tyA, d1, d2, ints_len]; (repeat (with_reducible refine And.intro ?_ ?_; exact sdX)); (with_reducible first | refine awp_id ?_ | refine id_call ?_ | refine id_and ?_ | refine id_ex ?_ | refine id_all ?_ | refine id_nat ?_ | refine id_le ?_))))
        exact awp_ret (ends_plain (.inr rfl) rfl (by simp (maxSteps := 4000000) only [↓reduceIte, Nat.reduceLT, Nat.reduceEqDiff, reduceCtorEq, Nat.reduceAdd, Nat.reduceMul, Int.reduceLE, Int.reduceLT, Int.reduceToNat, Nat.reduceLeDiff, Nat.reduceSub, Int.reduceEq, Nat.reduceBEq, evB, hres]))
    · have d1 : decide ((n : Int) < (w.length : Int)) = false := by simpa using hlt
      have hres : runD N s (w.take n) = runD N s w := by rw [List.take_of_length_le (by omega)]
      (repeat (first | refine awp_seq ?_ | refine awp_block ?_ | ((first | refine awp_skip ?_ | refine awp_exit ?_ | refine awp_reg ttok ?_ | (refine awp_draw ttok ?dr_calm ?_; (case dr_calm => decide +kernel)) | refine awp_condM ?_); simp (maxSteps := 4000000) only [↓reduceIte, Nat.reduceLT, Nat.reduceEqDiff, reduceCtorEq, Nat.reduceAdd, Nat.reduceMul, Int.reduceLE, Int.reduceLT, Int.reduceToNat, Nat.reduceLeDiff, Nat.reduceSub, Int.reduceEq, Nat.reduceBEq, evB, tyA, d1, ints_len]; (repeat (with_reducible refine And.intro ?_ ?_; exact sdX)); (with_reducible first | refine awp_id ?_ | refine id_call ?_ | refine id_and ?_ | refine id_ex ?_ | refine id_all ?_ | refine id_nat ?_ | refine id_le ?_))))
      exact awp_ret (ends_plain (.inr rfl) rfl (by simp (maxSteps := 4000000) only [↓reduceIte, Nat.reduceLT, Nat.reduceEqDiff, reduceCtorEq, Nat.reduceAdd, Nat.reduceMul, Int.reduceLE, Int.reduceLT, Int.reduceToNat, Nat.reduceLeDiff, Nat.reduceSub, Int.reduceEq, Nat.reduceBEq, evB, hres]))
set_option maxRecDepth 20000 in
set_option maxHeartbeats 16000000 in
theorem c_EndsG {L k : Nat} {N : List (List Int)} (h : NOk L k N) (st : Nat) (F : List Bool) (hF : F.length = k) (hL : L ≤ 2000) (hk : 1 ≤ k ∧ k ≤ 2000) (s : Int) (hs : -9223372036854775808 ≤ s ∧ s ≤ 9223372036854775807) (f : Bool) (w : List Int) (hw : w.length ≤ 9223372036854775806) :
    Contract Try.prog 9 [dfaD L st F N, i64 s, .sl f (ints w)] (bo (endsD F N s w)) [] := by
  refine contract_of_awp (rs := [6]) Try.func9 rfl Try.ntmps9 (by simp) rfl fun E => ?_
  (repeat (first | refine awp_seq ?_ | refine awp_block ?_ | ((first | refine awp_skip ?_ | refine awp_exit ?_ | refine awp_reg ttok ?_ | (refine awp_draw ttok ?dr_calm ?_; (case dr_calm => decide +kernel)) | refine awp_condM ?_); simp (maxSteps := 4000000) only [↓reduceIte, Nat.reduceLT, Nat.reduceEqDiff, reduceCtorEq, Nat.reduceAdd, Nat.reduceMul, Int.reduceLE, Int.reduceLT, Int.reduceToNat, Nat.reduceLeDiff, Nat.reduceSub, Int.reduceEq, Nat.reduceBEq, evB, tyA, dfaD]; (repeat (with_reducible refine And.intro ?_ ?_; exact sdX)); (with_reducible first | refine awp_id ?_ | refine id_call ?_ | refine id_and ?_ | refine id_ex ?_ | refine id_all ?_ | refine id_nat ?_ | refine id_le ?_))))
  refine callVC_scal fnok18 (c_RunG h st F hL hk s hs f w hw) rfl ?_
  simp (maxSteps := 4000000) only [↓reduceIte, Nat.reduceLT, Nat.reduceEqDiff, reduceCtorEq, Nat.reduceAdd, Nat.reduceMul, Int.reduceLE, Int.reduceLT, Int.reduceToNat, Nat.reduceLeDiff, Nat.reduceSub, Int.reduceEq, Nat.reduceBEq, evB, tyA]
  (repeat (with_reducible refine And.intro ?_ ?_; exact sdX))
  unfold endsD
  generalize runD N s w = Z
  by_cases hz : 0 ≤ Z
  · have d1 : decide (0 ≤ Z) = true := by simpa using hz
    obtain ⟨z, rfl⟩ := Int.eq_ofNat_of_zero_le hz
    by_cases hb : z < k
    · have d2 : decide ((z : Int) < (k : Int)) = true := by simpa using hb
      have hg := bos_get (l := F) (i := z) (by omega)
      (repeat (first | refine awp_seq ?_ | refine awp_block ?_ | ((first | refine awp_skip ?_ | refine awp_exit ?_ | refine awp_reg ttok ?_ | (refine awp_draw ttok ?dr_calm ?_; (case dr_calm => decide +kernel)) | refine awp_condM ?_); simp (maxSteps := 4000000) only [↓reduceIte, Nat.reduceLT, Nat.reduceEqDiff, reduceCtorEq, Nat.reduceAdd, Nat.reduceMul, Int.reduceLE, Int.reduceLT, Int.reduceToNat, Nat.reduceLeDiff, Nat.reduceSub, Int.reduceEq, Nat.reduceBEq, evB, tyA, d1, d2, bos_len, hF, hg]; (repeat (with_reducible refine And.intro ?_ ?_; exact sdX)); (with_reducible first | refine awp_id ?_ | refine id_call ?_ | refine id_and ?_ | refine id_ex ?_ | refine id_all ?_ | refine id_nat ?_ | refine id_le ?_))))
      exact awp_ret (ends_plain (.inr rfl) rfl (by simp (maxSteps := 4000000) only [↓reduceIte, Nat.reduceLT, Nat.reduceEqDiff, reduceCtorEq, Nat.reduceAdd, Nat.reduceMul, Int.reduceLE, Int.reduceLT, Int.reduceToNat, Nat.reduceLeDiff, Nat.reduceSub, Int.reduceEq, Nat.reduceBEq, evB, Int.toNat_natCast, d1, Bool.true_and]))
    · have d2 : decide ((z : Int) < (k : Int)) = false := by simpa using hb
      have hg : F.getD z false = false := by simp [List.getD, List.getElem?_eq_none (show F.length ≤ z by omega)]
      (repeat (first | refine awp_seq ?_ | refine awp_block ?_ | ((first | refine awp_skip ?_ | refine awp_exit ?_ | refine awp_reg ttok ?_ | (refine awp_draw ttok ?dr_calm ?_; (case dr_calm => decide +kernel)) | refine awp_condM ?_); simp (maxSteps := 4000000) only [↓reduceIte, Nat.reduceLT, Nat.reduceEqDiff, reduceCtorEq, Nat.reduceAdd, Nat.reduceMul, Int.reduceLE, Int.reduceLT, Int.reduceToNat, Nat.reduceLeDiff, Nat.reduceSub, Int.reduceEq, Nat.reduceBEq, evB, tyA, d1, d2, bos_len, hF]; (repeat (with_reducible refine And.intro ?_ ?_; exact sdX)); (with_reducible first | refine awp_id ?_ | refine id_call ?_ | refine id_and ?_ | refine id_ex ?_ | refine id_all ?_ | refine id_nat ?_ | refine id_le ?_))))
      exact awp_ret (ends_plain (.inr rfl) rfl (by simp (maxSteps := 4000000) only [↓reduceIte, Nat.reduceLT, Nat.reduceEqDiff, reduceCtorEq, Nat.reduceAdd, Nat.reduceMul, Int.reduceLE, Int.reduceLT, Int.reduceToNat, Nat.reduceLeDiff, Nat.reduceSub, Int.reduceEq, Nat.reduceBEq, evB, Int.toNat_natCast, hg, Bool.and_false]))
  · have d1 : decide (0 ≤ Z) = false := by simpa using hz
    (repeat (first | refine awp_seq ?_ | refine awp_block ?_ | ((first | refine awp_skip ?_ | refine awp_exit ?_ | refine awp_reg ttok ?_ | (refine awp_draw ttok ?dr_calm ?_; (case dr_calm => decide +kernel)) | refine awp_condM ?_); simp (maxSteps := 4000000) only [↓reduceIte, Nat.reduceLT, Nat.reduceEqDiff, reduceCtorEq, Nat.reduceAdd, Nat.reduceMul, Int.reduceLE, Int.reduceLT, Int.reduceToNat, Nat.reduceLeDiff, Nat.reduceSub, Int.reduceEq, Nat.reduceBEq, evB, tyA, d1]; (repeat (with_reducible refine And.intro ?_ ?_; exact sdX)); (with_reducible first | refine awp_id ?_ | refine id_call ?_ | refine id_and ?_ | refine id_ex ?_ | refine id_all ?_ | refine id_nat ?_ | refine id_le ?_))))
    exact awp_ret (ends_plain (.inr rfl) rfl (by simp (maxSteps := 4000000) only [↓reduceIte, Nat.reduceLT, Nat.reduceEqDiff, reduceCtorEq, Nat.reduceAdd, Nat.reduceMul, Int.reduceLE, Int.reduceLT, Int.reduceToNat, Nat.reduceLeDiff, Nat.reduceSub, Int.reduceEq, Nat.reduceBEq, evB, d1, Bool.false_and]))
theorem c_Ends {L k : Nat} {N : List (List Int)} (h : NOk L k N) (st : Nat) (F : List Bool) (hF : F.length = k) (hL : L ≤ 4) (hk : 1 ≤ k ∧ k ≤ 8) (s : Int) (hs : -9223372036854775808 ≤ s ∧ s ≤ 9223372036854775807) (f : Bool) (w : List Int) (hw : w.length ≤ 9223372036854775806) :
    Contract Try.prog 9 [dfaD L st F N, i64 s, .sl f (ints w)] (bo (endsD F N s w)) [] :=
  c_EndsG h st F hF (by omega) (by omega) s hs f w hw
end Go.Proofs.Ytglcnghfmdcdpaa
