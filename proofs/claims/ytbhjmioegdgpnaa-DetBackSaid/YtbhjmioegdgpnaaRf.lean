/-
  States that may be, out of numbers: the contract of galliardref18.Dfa.
-/
import Derived.Test.YtbhjmioegdgpnaaTy
import Derived.Test.YtbhjmioegdgpnaaDfa
import Derived.Test.YtbhjmioegdgpnaaFam
namespace Go.Proofs.Ytbhjmioegdgpnaa
open Go.Ab
set_option linter.unusedSimpArgs false
set_option linter.unusedVariables false

def negP (L j : Nat) : List Int := List.replicate j (-1) ++ List.replicate (L - j) 0
theorem negP_zero (L : Nat) : negP L 0 = List.replicate L 0 := by simp [negP]
theorem negP_all (L : Nat) : negP L L = negs L := by simp [negP, negs]
theorem negP_len {L j : Nat} (h : j ≤ L) : (negP L j).length = L := by simp [negP]; omega
theorem negP_set {L j : Nat} (h : j < L) : (negP L j).set j (-1) = negP L (j + 1) := by
  rw [negP, List.set_append_right _ _ (by simp), List.length_replicate, Nat.sub_self, show L - j = (L - (j + 1)) + 1 by omega, List.replicate_succ, List.set_cons_zero, negP, List.replicate_succ', List.append_assoc]; rfl

def dfaD (L s : Nat) (F : List Bool) (N : List (List Int)) : D := .agg [i64 L, i64 s, .sl false (bos F), .sl false (iis N)]

set_option maxRecDepth 20000 in
set_option maxHeartbeats 16000000 in
theorem c_Dfa (f : Bool) (l : List (Int × Int × Int)) (fin z0 z1 : Int) (hl : l.length ≤ 9223372036854775807) : Contract Try.prog 24 [.sl f (tri l), i64 fin, .agg [i64 z0, i64 z1]] (dfaD (labD z0) (startD z1) (finD fin (numD z1)) (nextD (labD z0) (numD z1) l)) [] := by
  refine contract_of_awpV ttok (rs := [.cell 6 41]) Try.func24 rfl Try.ntmps24 (by simp) rfl fun E => ?_
  have hL := labD_le z0
  have hk := numD_le z1
  have hLw : IntKind.i64.wrap ((lowB 3 z0 : Int) + (lowB 1 (z0.fdiv (2 ^ min 2 IntKind.i64.bits)) : Int)) = (labD z0 : Int) := by
    have := labD_le z0
    unfold labD at this ⊢
    rw [i64_in (by omega) (by omega)]; simp
  have hkw : IntKind.i64.wrap ((lowB 7 z1 : Int) + 1) = (numD z1 : Int) := by
    unfold numD at hk ⊢
    exact i64_in (by omega) (by omega)
  (repeat (first | refine awp_seq ?_ | refine awp_block ?_ | ((first | refine awp_skip ?_ | refine awp_exit ?_ | refine awp_reg ttok ?_ | (refine awp_draw ttok ?dr_calm ?_; (case dr_calm => decide +kernel)) | refine awp_condM ?_); simp (maxSteps := 4000000) only [↓reduceIte, Nat.reduceLT, Nat.reduceEqDiff, reduceCtorEq, Nat.reduceAdd, Nat.reduceMul, Int.reduceLE, Int.reduceLT, Int.reduceToNat, Nat.reduceLeDiff, Nat.reduceSub, Int.reduceEq, Nat.reduceBEq, List.replicate, List.set, if_false, if_true, ne_eq, false_implies, implies_true, evA, tyA, lowW3, lowW1, lowW7, hLw, hkw]; (repeat (with_reducible refine And.intro ?_ ?_; focus ((repeat' with_reducible apply And.intro) <;> (first | omega | with_reducible trivial | with_reducible assumption)))); (with_reducible first | refine awp_id ?_ | refine id_call ?_ | refine id_and ?_ | refine id_ex ?_ | refine id_all ?_ | refine id_nat ?_ | refine id_le ?_))))
  refine awp_at 112 [(0, _), (1, _), (5, _), (6, _), (7, _), (8, _)] [(1000, _), (1001, _)] rfl (by (first | simp (maxSteps := 4000000) only [↓reduceIte, Nat.reduceLT, Nat.reduceEqDiff, reduceCtorEq, Nat.reduceAdd, Nat.reduceMul, Int.reduceLE, Int.reduceLT, Int.reduceToNat, Nat.reduceLeDiff, Nat.reduceSub, Int.reduceEq, Nat.reduceBEq, List.replicate, List.set, if_false, if_true, ne_eq, false_implies, implies_true, evA] | skip); exact ⟨rfl, rfl, rfl, rfl, rfl, rfl⟩) (by (first | simp (maxSteps := 4000000) only [↓reduceIte, Nat.reduceLT, Nat.reduceEqDiff, reduceCtorEq, Nat.reduceAdd, Nat.reduceMul, Int.reduceLE, Int.reduceLT, Int.reduceToNat, Nat.reduceLeDiff, Nat.reduceSub, Int.reduceEq, Nat.reduceBEq, List.replicate, List.set, if_false, if_true, ne_eq, false_implies, implies_true, evA] | skip); exact ⟨rfl, rfl⟩) ?_
  refine awp_own_nilC 1001 0 2 80001 1 (by decide) (by simp (maxSteps := 4000000) only [↓reduceIte, Nat.reduceLT, Nat.reduceEqDiff, reduceCtorEq, Nat.reduceAdd, Nat.reduceMul, Int.reduceLE, Int.reduceLT, Int.reduceToNat, Nat.reduceLeDiff, Nat.reduceSub, Int.reduceEq, Nat.reduceBEq, List.replicate, List.set, if_false, if_true, ne_eq, false_implies, implies_true, evA]; rfl) rfl rfl rfl ?_
  refine awp_own_nilC 1001 0 3 80002 1 (by decide) (by simp (maxSteps := 4000000) only [↓reduceIte, Nat.reduceLT, Nat.reduceEqDiff, reduceCtorEq, Nat.reduceAdd, Nat.reduceMul, Int.reduceLE, Int.reduceLT, Int.reduceToNat, Nat.reduceLeDiff, Nat.reduceSub, Int.reduceEq, Nat.reduceBEq, List.replicate, List.set, if_false, if_true, ne_eq, false_implies, implies_true, evA]; rfl) rfl rfl rfl ?_
  refine awp_unflat 80002 ?_
  obtain ⟨L, eL⟩ : ∃ L, L = labD z0 := ⟨_, rfl⟩
  obtain ⟨k, ek⟩ : ∃ k, k = numD z1 := ⟨_, rfl⟩
  rw [← eL] at hL hLw ⊢
  rw [← ek] at hk hkw ⊢
  refine awp_loop (X := Nat) (fun i => mkS 112 [(0, .sl f (tri l)), (1, i64 fin), (5, .ptr 1000 0 0), (6, .ptr 1001 0 0), (7, i64 k), (8, i64 i)]
      ([(1000, { sz := 2, rows := [[i64 z0, i64 z1]], flat := false }), (1001, { sz := 4, rows := [[i64 L, i64 0, .own 80001 0 i, .own 80002 0 i]], flat := false }), (80001, { sz := 1, rows := bos (finD fin i) }), (80002, { sz := 1, rows := ownRows i L, flat := false })] ++ fam i fun _ => { sz := 1, rows := ints (negs L) }))
    (fun i => i ≤ k) (fun i => k - i) 0 (by omega) (mkS_le rfl ?_ ?_) ?_
  · simp (maxSteps := 4000000) only [↓reduceIte, Nat.reduceLT, Nat.reduceEqDiff, reduceCtorEq, Nat.reduceAdd, Nat.reduceMul, Int.reduceLE, Int.reduceLT, Int.reduceToNat, Nat.reduceLeDiff, Nat.reduceSub, Int.reduceEq, Nat.reduceBEq, List.replicate, List.set, if_false, if_true, ne_eq, false_implies, implies_true, evA]
    try rfl
  · simp (maxSteps := 4000000) only [↓reduceIte, Nat.reduceLT, Nat.reduceEqDiff, reduceCtorEq, Nat.reduceAdd, Nat.reduceMul, Int.reduceLE, Int.reduceLT, Int.reduceToNat, Nat.reduceLeDiff, Nat.reduceSub, Int.reduceEq, Nat.reduceBEq, List.replicate, List.set, if_false, if_true, ne_eq, false_implies, implies_true, evA, fam, List.range_zero]
    exact ⟨rfl, rfl⟩
  · intro i hi
    by_cases hlt : i < k
    · have d1 : decide ((i : Int) < (k : Int)) = true := by simpa using hlt
      have n0 : List.replicate (L : Int).toNat [D.v (Value.int IntKind.i64 0)] = ints (List.replicate L 0) := by simp [ints]
      ((repeat (first | refine awp_seq ?_ | refine awp_block ?_)); ((first | refine awp_skip ?_ | refine awp_exit ?_ | refine awp_reg ttok ?_ | (refine awp_draw ttok ?dr_calm ?_; (case dr_calm => decide +kernel)) | refine awp_condM ?_); simp (maxSteps := 4000000) only [↓reduceIte, Nat.reduceLT, Nat.reduceEqDiff, reduceCtorEq, Nat.reduceAdd, Nat.reduceMul, Int.reduceLE, Int.reduceLT, Int.reduceToNat, Nat.reduceLeDiff, Nat.reduceSub, Int.reduceEq, Nat.reduceBEq, List.replicate, List.set, if_false, if_true, ne_eq, false_implies, implies_true, evA, tyA, d1]; (repeat (with_reducible refine And.intro ?_ ?_; focus ((repeat' with_reducible apply And.intro) <;> (first | omega | with_reducible trivial | with_reducible assumption)))); (with_reducible first | refine awp_id ?_ | refine id_call ?_ | refine id_and ?_ | refine id_ex ?_ | refine id_all ?_ | refine id_nat ?_ | refine id_le ?_)))
      ((repeat (first | refine awp_seq ?_ | refine awp_block ?_)); ((first | refine awp_skip ?_ | refine awp_exit ?_ | refine awp_reg ttok ?_ | (refine awp_draw ttok ?dr_calm ?_; (case dr_calm => decide +kernel)) | refine awp_condM ?_); simp (maxSteps := 4000000) only [↓reduceIte, Nat.reduceLT, Nat.reduceEqDiff, reduceCtorEq, Nat.reduceAdd, Nat.reduceMul, Int.reduceLE, Int.reduceLT, Int.reduceToNat, Nat.reduceLeDiff, Nat.reduceSub, Int.reduceEq, Nat.reduceBEq, List.replicate, List.set, if_false, if_true, ne_eq, false_implies, implies_true, evA, tyA, d1]; (repeat (with_reducible refine And.intro ?_ ?_; focus ((repeat' with_reducible apply And.intro) <;> (first | omega | with_reducible trivial | with_reducible assumption)))); (with_reducible first | refine awp_id ?_ | refine id_call ?_ | refine id_and ?_ | refine id_ex ?_ | refine id_all ?_ | refine id_nat ?_ | refine id_le ?_)))
      ((repeat (first | refine awp_seq ?_ | refine awp_block ?_)); ((first | refine awp_skip ?_ | refine awp_exit ?_ | refine awp_reg ttok ?_ | (refine awp_draw ttok ?dr_calm ?_; (case dr_calm => decide +kernel)) | refine awp_condM ?_); simp (maxSteps := 4000000) only [↓reduceIte, Nat.reduceLT, Nat.reduceEqDiff, reduceCtorEq, Nat.reduceAdd, Nat.reduceMul, Int.reduceLE, Int.reduceLT, Int.reduceToNat, Nat.reduceLeDiff, Nat.reduceSub, Int.reduceEq, Nat.reduceBEq, List.replicate, List.set, if_false, if_true, ne_eq, false_implies, implies_true, evA, tyA]; (repeat (with_reducible refine And.intro ?_ ?_; focus ((repeat' with_reducible apply And.intro) <;> (first | omega | with_reducible trivial | with_reducible assumption)))); (with_reducible first | refine awp_id ?_ | refine id_call ?_ | refine id_and ?_ | refine id_ex ?_ | refine id_all ?_ | refine id_nat ?_ | refine id_le ?_)))
      repeat (first | refine awp_seq ?_ | refine awp_block ?_)
      refine awp_region ttok (i + 89998) ?_
      simp (maxSteps := 4000000) only [↓reduceIte, Nat.reduceLT, Nat.reduceEqDiff, reduceCtorEq, Nat.reduceAdd, Nat.reduceMul, Int.reduceLE, Int.reduceLT, Int.reduceToNat, Nat.reduceLeDiff, Nat.reduceSub, Int.reduceEq, Nat.reduceBEq, List.replicate, List.set, if_false, if_true, ne_eq, false_implies, implies_true, evA, tyA, n0, lk_famO, show i + 89998 + 1 + 1 = i + 90000 from rfl]
      (repeat (with_reducible refine And.intro ?_ ?_; focus ((repeat' with_reducible apply And.intro) <;> (first | omega | with_reducible trivial | with_reducible assumption))))
      (repeat (first | refine awp_seq ?_ | refine awp_block ?_ | ((first | refine awp_skip ?_ | refine awp_exit ?_ | refine awp_reg ttok ?_ | (refine awp_draw ttok ?dr_calm ?_; (case dr_calm => decide +kernel)) | refine awp_condM ?_); simp (maxSteps := 4000000) only [↓reduceIte, Nat.reduceLT, Nat.reduceEqDiff, reduceCtorEq, Nat.reduceAdd, Nat.reduceMul, Int.reduceLE, Int.reduceLT, Int.reduceToNat, Nat.reduceLeDiff, Nat.reduceSub, Int.reduceEq, Nat.reduceBEq, List.replicate, List.set, if_false, if_true, ne_eq, false_implies, implies_true, evA, tyA]; (repeat (with_reducible refine And.intro ?_ ?_; focus ((repeat' with_reducible apply And.intro) <;> (first | omega | with_reducible trivial | with_reducible assumption)))); (with_reducible first | refine awp_id ?_ | refine id_call ?_ | refine id_and ?_ | refine id_ex ?_ | refine id_all ?_ | refine id_nat ?_ | refine id_le ?_))))
      have hnl : ∀ j, j ≤ L → (negP L j).length = L := fun j h => negP_len h
      refine awp_loop (X := Nat) (fun j => mkS 112 [(0, .sl f (tri l)), (1, i64 fin), (5, .ptr 1000 0 0), (6, .ptr 1001 0 0), (7, i64 k), (8, i64 i), (9, .own (i + 90000) 0 L), (10, i64 j)]
          ([(1000, { sz := 2, rows := [[i64 z0, i64 z1]], flat := false }), (1001, { sz := 4, rows := [[i64 L, i64 0, .own 80001 0 i, .own 80002 0 i]], flat := false }), (80001, { sz := 1, rows := bos (finD fin i) }), (80002, { sz := 1, rows := ownRows i L, flat := false }), (i + 90000, { sz := 1, rows := ints (negP L j) })] ++ fam i fun _ => { sz := 1, rows := ints (negs L) }))
        (fun j => j ≤ L) (fun j => L - j) 0 (by omega) (mkS_le rfl ?_ ?_) ?_
      · simp (maxSteps := 4000000) only [↓reduceIte, Nat.reduceLT, Nat.reduceEqDiff, reduceCtorEq, Nat.reduceAdd, Nat.reduceMul, Int.reduceLE, Int.reduceLT, Int.reduceToNat, Nat.reduceLeDiff, Nat.reduceSub, Int.reduceEq, Nat.reduceBEq, List.replicate, List.set, if_false, if_true, ne_eq, false_implies, implies_true, evA]
        try rfl
      · simp (maxSteps := 4000000) only [↓reduceIte, Nat.reduceLT, Nat.reduceEqDiff, reduceCtorEq, Nat.reduceAdd, Nat.reduceMul, Int.reduceLE, Int.reduceLT, Int.reduceToNat, Nat.reduceLeDiff, Nat.reduceSub, Int.reduceEq, Nat.reduceBEq, List.replicate, List.set, if_false, if_true, ne_eq, false_implies, implies_true, evA, knowsH_app, knowsH_fam, negP_zero, ownRows_killO]
        refine ⟨by rw [← n0]; rfl, fun r hr => ?_⟩
        rw [if_neg (by omega), if_neg (by omega), lk_fam hr]
        rfl
      · intro j hj
        have hjl := hnl j hj
        by_cases hjlt : j < L
        · have d2 : decide ((j : Int) < (L : Int)) = true := by simpa using hjlt
          have hw : IntKind.i64.wrap ((j : Int) + 1) = ((j + 1 : Nat) : Int) := i64_in (by omega) (by omega)
          have hs : List.set (ints (negP L j)) j [D.v (Value.int IntKind.i64 (-1))] = ints (negP L (j + 1)) := by rw [← negP_set hjlt]; simp [ints]
          have hg : (ints (negP L j)).getD j [] = [i64 ((negP L j).getD j 0)] := ints_get (by omega)
          (repeat (first | refine awp_seq ?_ | refine awp_block ?_ | ((first | refine awp_skip ?_ | refine awp_exit ?_ | refine awp_reg ttok ?_ | (refine awp_draw ttok ?dr_calm ?_; (case dr_calm => decide +kernel)) | refine awp_condM ?_); simp (maxSteps := 4000000) only [↓reduceIte, Nat.reduceLT, Nat.reduceEqDiff, reduceCtorEq, Nat.reduceAdd, Nat.reduceMul, Int.reduceLE, Int.reduceLT, Int.reduceToNat, Nat.reduceLeDiff, Nat.reduceSub, Int.reduceEq, Nat.reduceBEq, List.replicate, List.set, if_false, if_true, ne_eq, false_implies, implies_true, evA, tyA, d2, hw, hjl, hs, hg]; (repeat (with_reducible refine And.intro ?_ ?_; focus ((repeat' with_reducible apply And.intro) <;> (first | omega | with_reducible trivial | with_reducible assumption)))); (with_reducible first | refine awp_id ?_ | refine id_call ?_ | refine id_and ?_ | refine id_ex ?_ | refine id_all ?_ | refine id_nat ?_ | refine id_le ?_))))
          refine ⟨j + 1, by omega, by omega, mkS_le rfl ?_ ?_⟩
          · simp (maxSteps := 4000000) only [↓reduceIte, Nat.reduceLT, Nat.reduceEqDiff, reduceCtorEq, Nat.reduceAdd, Nat.reduceMul, Int.reduceLE, Int.reduceLT, Int.reduceToNat, Nat.reduceLeDiff, Nat.reduceSub, Int.reduceEq, Nat.reduceBEq, List.replicate, List.set, if_false, if_true, ne_eq, false_implies, implies_true, evA]
          · simp (maxSteps := 4000000) only [↓reduceIte, Nat.reduceLT, Nat.reduceEqDiff, reduceCtorEq, Nat.reduceAdd, Nat.reduceMul, Int.reduceLE, Int.reduceLT, Int.reduceToNat, Nat.reduceLeDiff, Nat.reduceSub, Int.reduceEq, Nat.reduceBEq, List.replicate, List.set, if_false, if_true, ne_eq, false_implies, implies_true, evA, knowsH_app, knowsH_fam, hs, hg]
            intro r hr
            rw [if_neg (by omega), if_neg (by omega), lk_fam hr]
        · have d2 : decide ((j : Int) < (L : Int)) = false := by simpa using hjlt
          obtain rfl : j = L := by omega
          (repeat (first | refine awp_seq ?_ | refine awp_block ?_ | ((first | refine awp_skip ?_ | refine awp_exit ?_ | refine awp_reg ttok ?_ | (refine awp_draw ttok ?dr_calm ?_; (case dr_calm => decide +kernel)) | refine awp_condM ?_); simp (maxSteps := 4000000) only [↓reduceIte, Nat.reduceLT, Nat.reduceEqDiff, reduceCtorEq, Nat.reduceAdd, Nat.reduceMul, Int.reduceLE, Int.reduceLT, Int.reduceToNat, Nat.reduceLeDiff, Nat.reduceSub, Int.reduceEq, Nat.reduceBEq, List.replicate, List.set, if_false, if_true, ne_eq, false_implies, implies_true, evA, tyA, d2]; (repeat (with_reducible refine And.intro ?_ ?_; focus ((repeat' with_reducible apply And.intro) <;> (first | omega | with_reducible trivial | with_reducible assumption)))); (with_reducible first | refine awp_id ?_ | refine id_call ?_ | refine id_and ?_ | refine id_ex ?_ | refine id_all ?_ | refine id_nat ?_ | refine id_le ?_))))
          refine awp_region ttok 50000000 ?_
          have hkb : (ownRows i j).map (D.killL 50000003) = ownRows i j := ownRows_killB (by omega) (by decide)
          have hi9 : (i = 49910003) = False := eq_false (by omega)
          have hnj := hnl j (Nat.le_refl _)
          simp (maxSteps := 4000000) only [↓reduceIte, Nat.reduceLT, Nat.reduceEqDiff, reduceCtorEq, Nat.reduceAdd, Nat.reduceMul, Int.reduceLE, Int.reduceLT, Int.reduceToNat, Nat.reduceLeDiff, Nat.reduceSub, Int.reduceEq, Nat.reduceBEq, List.replicate, List.set, if_false, if_true, ne_eq, false_implies, implies_true, evA, tyA, ownRows_len, ownRows_take, ownRows_app, ownRows_row, ownRows_kill, hkb, hi9]
          refine ⟨⟨by simp, by omega, by omega⟩, ?_⟩
          have hfl := finD_len fin i
          have hft : List.take i (finD fin i) = finD fin i := List.take_of_length_le (by omega)
          have hw : IntKind.i64.wrap ((i : Int) + 1) = ((i + 1 : Nat) : Int) := i64_in (by omega) (by omega)
          have hfs := finD_succ fin i
          have hu : IntKind.u64.wrap (i : Int) = (i : Int) := by
            simp only [IntKind.wrap, IntKind.bits, IntKind.signed, Bool.false_eq_true, if_false]
            first | omega | (simp; omega) | simp
          have hbo : ∀ b : Bool, [[D.v (Value.bool b)]] = bos [b] := fun _ => rfl
          (repeat (first | refine awp_seq ?_ | refine awp_block ?_ | ((first | refine awp_skip ?_ | refine awp_exit ?_ | refine awp_reg ttok ?_ | (refine awp_draw ttok ?dr_calm ?_; (case dr_calm => decide +kernel)) | refine awp_condM ?_); simp (maxSteps := 4000000) only [↓reduceIte, Nat.reduceLT, Nat.reduceEqDiff, reduceCtorEq, Nat.reduceAdd, Nat.reduceMul, Int.reduceLE, Int.reduceLT, Int.reduceToNat, Nat.reduceLeDiff, Nat.reduceSub, Int.reduceEq, Nat.reduceBEq, List.replicate, List.set, if_false, if_true, ne_eq, false_implies, implies_true, evA, tyA, hw, hu, lowW1, bos_len, bos_take, bos_app, bos_row, hbo, hfl, hft, ← hfs]; (repeat (with_reducible refine And.intro ?_ ?_; focus ((repeat' with_reducible apply And.intro) <;> (first | omega | with_reducible trivial | with_reducible assumption)))); (with_reducible first | refine awp_id ?_ | refine id_call ?_ | refine id_and ?_ | refine id_ex ?_ | refine id_all ?_ | refine id_nat ?_ | refine id_le ?_))))
          refine ⟨i + 1, by omega, by omega, mkS_le rfl ?_ ?_⟩
          · simp (maxSteps := 4000000) only [↓reduceIte, Nat.reduceLT, Nat.reduceEqDiff, reduceCtorEq, Nat.reduceAdd, Nat.reduceMul, Int.reduceLE, Int.reduceLT, Int.reduceToNat, Nat.reduceLeDiff, Nat.reduceSub, Int.reduceEq, Nat.reduceBEq, List.replicate, List.set, if_false, if_true, ne_eq, false_implies, implies_true, evA]
          · simp (maxSteps := 4000000) only [↓reduceIte, Nat.reduceLT, Nat.reduceEqDiff, reduceCtorEq, Nat.reduceAdd, Nat.reduceMul, Int.reduceLE, Int.reduceLT, Int.reduceToNat, Nat.reduceLeDiff, Nat.reduceSub, Int.reduceEq, Nat.reduceBEq, List.replicate, List.set, if_false, if_true, ne_eq, false_implies, implies_true, evA, knowsH_app, knowsH_fam, ownRows_app, ← hfs]
            refine ⟨by rw [ownRows_kill (by decide), ownRows_kill (by decide)], fun r hr => ?_⟩
            rw [if_neg (by omega), if_neg (by omega)]
            by_cases hri : r = i
            · rw [if_pos hri, negP_all]; rfl
            · rw [if_neg hri, lk_fam (by omega)]; rfl
    · have d1 : decide ((i : Int) < (k : Int)) = false := by simpa using hlt
      obtain rfl : i = k := by omega
      (repeat (first | refine awp_seq ?_ | refine awp_block ?_ | ((first | refine awp_skip ?_ | refine awp_exit ?_ | refine awp_reg ttok ?_ | (refine awp_draw ttok ?dr_calm ?_; (case dr_calm => decide +kernel)) | refine awp_condM ?_); simp (maxSteps := 4000000) only [↓reduceIte, Nat.reduceLT, Nat.reduceEqDiff, reduceCtorEq, Nat.reduceAdd, Nat.reduceMul, Int.reduceLE, Int.reduceLT, Int.reduceToNat, Nat.reduceLeDiff, Nat.reduceSub, Int.reduceEq, Nat.reduceBEq, List.replicate, List.set, if_false, if_true, ne_eq, false_implies, implies_true, evA, tyA, d1]; (repeat (with_reducible refine And.intro ?_ ?_; focus ((repeat' with_reducible apply And.intro) <;> (first | omega | with_reducible trivial | with_reducible assumption)))); (with_reducible first | refine awp_id ?_ | refine id_call ?_ | refine id_and ?_ | refine id_ex ?_ | refine id_all ?_ | refine id_nat ?_ | refine id_le ?_))))
      have hok := fun n => nxD_ok (L := L) hk.1 l n
      refine awp_loop (X := Nat) (fun n => mkS 112 [(0, .sl f (tri l)), (5, .ptr 1000 0 0), (6, .ptr 1001 0 0), (7, i64 i), (11, i64 n)]
          ([(1000, { sz := 2, rows := [[i64 z0, i64 z1]], flat := false }), (1001, { sz := 4, rows := [[i64 L, i64 0, .own 80001 0 i, .own 80002 0 i]], flat := false }), (80001, { sz := 1, rows := bos (finD fin i) }), (80002, { sz := 1, rows := ownRows i L, flat := false })] ++ fam i fun r => { sz := 1, rows := ints ((nxD L i l n).getD r []) }))
        (fun n => n ≤ (if L = 0 then 0 else min l.length 24)) (fun n => 24 - n) 0 (Nat.zero_le _) (mkS_le rfl ?_ ?_) ?_
      · simp (maxSteps := 4000000) only [↓reduceIte, Nat.reduceLT, Nat.reduceEqDiff, reduceCtorEq, Nat.reduceAdd, Nat.reduceMul, Int.reduceLE, Int.reduceLT, Int.reduceToNat, Nat.reduceLeDiff, Nat.reduceSub, Int.reduceEq, Nat.reduceBEq, List.replicate, List.set, if_false, if_true, ne_eq, false_implies, implies_true, evA]
        try rfl
      · simp (maxSteps := 4000000) only [↓reduceIte, Nat.reduceLT, Nat.reduceEqDiff, reduceCtorEq, Nat.reduceAdd, Nat.reduceMul, Int.reduceLE, Int.reduceLT, Int.reduceToNat, Nat.reduceLeDiff, Nat.reduceSub, Int.reduceEq, Nat.reduceBEq, List.replicate, List.set, if_false, if_true, ne_eq, false_implies, implies_true, evA, knowsH_app, knowsH_fam]
        intro r hr
        rw [lk_fam hr]
        simp [nxD, nx0, hr]
      · intro n hn
        by_cases hlt2 : n < (if L = 0 then 0 else min l.length 24)
        · have hL0 : L ≠ 0 := by intro e; rw [if_pos e] at hlt2; omega
          rw [if_neg hL0] at hlt2 hn
          have e1 : decide ((n : Int) < (l.length : Int)) = true := by simp; omega
          have e2 : decide ((n : Int) < 24) = true := by simp; omega
          have e3 : decide (0 < (L : Int)) = true := by simp; omega
          have hgt := tri_get (l := l) (i := n) (by omega)
          have hF : mvF i (l.getD n (0, 0, 0)) < i := Nat.mod_lt _ (by omega)
          have hT : mvT i (l.getD n (0, 0, 0)) < i := Nat.mod_lt _ (by omega)
          have hC : mvC L (l.getD n (0, 0, 0)) < L := Nat.mod_lt _ (by omega)
          have hstep : nxD L i l (n + 1) = setN (nxD L i l n) (mvF i (l.getD n (0, 0, 0))) (mvC L (l.getD n (0, 0, 0))) (mvT i (l.getD n (0, 0, 0))) := rfl
          generalize hx : l.getD n (0, 0, 0) = x at *
          obtain ⟨x1, x2, x3⟩ := x
          obtain ⟨F, hFe⟩ : ∃ F, mvF i (x1, x2, x3) = F := ⟨_, rfl⟩
          obtain ⟨T, hTe⟩ : ∃ T, mvT i (x1, x2, x3) = T := ⟨_, rfl⟩
          obtain ⟨C, hCe⟩ : ∃ C, mvC L (x1, x2, x3) = C := ⟨_, rfl⟩
          rw [hFe] at hF hstep; rw [hTe] at hT hstep; rw [hCe] at hC hstep
          have mF : lowB 255 x1 % i = F := hFe
          have mT : lowB 255 x2 % i = T := hTe
          have mC : lowB 255 x3 % L = C := hCe
          have wF : IntKind.i64.wrap (F : Int) = (F : Int) := i64_in (by omega) (by omega)
          have wT : IntKind.i64.wrap (T : Int) = (T : Int) := i64_in (by omega) (by omega)
          have wC : IntKind.i64.wrap (C : Int) = (C : Int) := i64_in (by omega) (by omega)
          have z1' : (((i : Nat) : Int) == 0) = false := by simp; omega
          have z2' : (((L : Nat) : Int) == 0) = false := by simp; omega
          have z3' : (((i : Nat) : Int) = 0) = False := eq_false (by omega)
          have z4' : (((L : Nat) : Int) = 0) = False := eq_false (by omega)
          have hg := ownRows_get (L := L) hF
          have hnk := (hok n).get hF
          have hgi := ints_get (l := (nxD L i l n).getD F []) (i := C) (by omega)
          have hw : IntKind.i64.wrap ((n : Int) + 1) = ((n + 1 : Nat) : Int) := i64_in (by omega) (by omega)
          (repeat (first | refine awp_seq ?_ | refine awp_block ?_ | ((first | refine awp_skip ?_ | refine awp_exit ?_ | refine awp_reg ttok ?_ | (refine awp_draw ttok ?dr_calm ?_; (case dr_calm => decide +kernel)) | refine awp_condM ?_); simp (maxSteps := 4000000) only [↓reduceIte, Nat.reduceLT, Nat.reduceEqDiff, reduceCtorEq, Nat.reduceAdd, Nat.reduceMul, Int.reduceLE, Int.reduceLT, Int.reduceToNat, Nat.reduceLeDiff, Nat.reduceSub, Int.reduceEq, Nat.reduceBEq, List.replicate, List.set, if_false, if_true, ne_eq, false_implies, implies_true, evA, tyA, e1, e2, e3, tri_len, hgt]; (repeat (with_reducible refine And.intro ?_ ?_; focus ((repeat' with_reducible apply And.intro) <;> (first | omega | with_reducible trivial | with_reducible assumption)))); (with_reducible first | refine awp_id ?_ | refine id_call ?_ | refine id_and ?_ | refine id_ex ?_ | refine id_all ?_ | refine id_nat ?_ | refine id_le ?_))))
          refine awp_drawG ttok ((0, none) :: (1, none) :: (2, none) :: (3, none) :: (4, none) :: (5, none) :: (6, none) :: (7, none) :: (8, none) :: (9, none) :: (10, none) :: (11, none) :: (12, none) :: (13, none) :: (14, none) :: (15, none) :: (16, none) :: (17, none) :: (18, none) :: (19, none) :: (20, none) :: (21, none) :: (22, none) :: (23, none) :: (24, none) :: (25, none) :: (26, none) :: (27, none) :: (28, none) :: (29, none) :: (30, some []) :: []) ([]) ([]) (by decide +kernel) fun O hO => ?_; simp only [OpsAre, Nat.reduceAdd, and_true, List.toList_toArray, List.append_eq, List.cons_append, List.nil_append] at hO; simp (maxSteps := 4000000) only [↓reduceIte, Nat.reduceLT, Nat.reduceEqDiff, reduceCtorEq, Nat.reduceAdd, Nat.reduceMul, Int.reduceLE, Int.reduceLT, Int.reduceToNat, Nat.reduceLeDiff, Nat.reduceSub, Int.reduceEq, Nat.reduceBEq, List.replicate, List.set, if_false, if_true, ne_eq, false_implies, implies_true, evA, tyA, hO, tri_len, hgt, lowW255, tmodN, mF, mT, mC, wF, wT, wC, z1', z2', z3', z4', ownRows_len, hg, lk_fam hF, hgi]; (repeat (with_reducible refine And.intro ?_ ?_; focus ((repeat' with_reducible apply And.intro) <;> (first | omega | with_reducible trivial | with_reducible assumption))))
          (repeat (first | refine awp_seq ?_ | refine awp_block ?_ | ((first | refine awp_skip ?_ | refine awp_exit ?_ | refine awp_reg ttok ?_ | (refine awp_draw ttok ?dr_calm ?_; (case dr_calm => decide +kernel)) | refine awp_condM ?_); simp (maxSteps := 4000000) only [↓reduceIte, Nat.reduceLT, Nat.reduceEqDiff, reduceCtorEq, Nat.reduceAdd, Nat.reduceMul, Int.reduceLE, Int.reduceLT, Int.reduceToNat, Nat.reduceLeDiff, Nat.reduceSub, Int.reduceEq, Nat.reduceBEq, List.replicate, List.set, if_false, if_true, ne_eq, false_implies, implies_true, evA, tyA, hw]; (repeat (with_reducible refine And.intro ?_ ?_; focus ((repeat' with_reducible apply And.intro) <;> (first | omega | with_reducible trivial | with_reducible assumption)))); (with_reducible first | refine awp_id ?_ | refine id_call ?_ | refine id_and ?_ | refine id_ex ?_ | refine id_all ?_ | refine id_nat ?_ | refine id_le ?_))))
          refine ⟨n + 1, by rw [if_neg hL0]; omega, by omega, mkS_le rfl ?_ ?_⟩
          · simp (maxSteps := 4000000) only [↓reduceIte, Nat.reduceLT, Nat.reduceEqDiff, reduceCtorEq, Nat.reduceAdd, Nat.reduceMul, Int.reduceLE, Int.reduceLT, Int.reduceToNat, Nat.reduceLeDiff, Nat.reduceSub, Int.reduceEq, Nat.reduceBEq, List.replicate, List.set, if_false, if_true, ne_eq, false_implies, implies_true, evA]
          · simp (maxSteps := 4000000) only [↓reduceIte, Nat.reduceLT, Nat.reduceEqDiff, reduceCtorEq, Nat.reduceAdd, Nat.reduceMul, Int.reduceLE, Int.reduceLT, Int.reduceToNat, Nat.reduceLeDiff, Nat.reduceSub, Int.reduceEq, Nat.reduceBEq, List.replicate, List.set, if_false, if_true, ne_eq, false_implies, implies_true, evA, knowsH_app, knowsH_fam, hgi]
            intro r hr
            rw [hstep]
            by_cases hrF : r = F
            · rw [if_pos hrF, hrF]
              have e : (setN (nxD L i l n) F C T).getD F [] = ((nxD L i l n).getD F []).set C T := by
                have := (hok n).len
                simp [setN, List.getD, show F < (nxD L i l n).length by omega]
              rw [e]
              simp [ints]
            · rw [if_neg hrF, lk_fam hr]
              have e : (setN (nxD L i l n) F C T).getD r [] = (nxD L i l n).getD r [] := by
                simp [setN, List.getD, List.getElem?_set_ne (Ne.symm hrF)]
              rw [e]
        · obtain rfl : n = (if L = 0 then 0 else min l.length 24) := by omega
          have hfin : nxD L i l (if L = 0 then 0 else min l.length 24) = nextD L i l := rfl
          obtain ⟨n, hn0⟩ : ∃ n, n = (if L = 0 then 0 else min l.length 24) := ⟨_, rfl⟩
          rw [← hn0] at hfin ⊢
          have hcases : decide ((n : Int) < (l.length : Int)) = false ∨ (decide ((n : Int) < (l.length : Int)) = true ∧ decide ((n : Int) < 24) = false) ∨ (decide ((n : Int) < (l.length : Int)) = true ∧ decide ((n : Int) < 24) = true ∧ decide (0 < (L : Int)) = false) := by
            simp only [decide_eq_false_iff_not, decide_eq_true_eq]
            by_cases hL0 : L = 0
            · omega
            · rw [if_neg hL0] at hn0; omega
          rw [hfin]
          have hokN := nextD_ok (L := L) hk.1 l
          generalize nextD L i l = N at *
          obtain ⟨pp, hpe, hpp⟩ := purLL_own (h := lk ([(1000, { sz := 2, rows := [[i64 z0, i64 z1]], flat := false }), (1001, { sz := 4, rows := [[i64 L, i64 0, .own 80001 0 i, .own 80002 0 i]], flat := false }), (80001, { sz := 1, rows := bos (finD fin i) }), (80002, { sz := 1, rows := ownRows i L, flat := false })] ++ fam i fun r => { sz := 1, rows := ints (N.getD r []) })) (L := L) (g := fun r => { sz := 1, rows := ints (N.getD r []) }) (List.range i) (fun r hr => ⟨by
              have hr' := List.mem_range.1 hr
              rw [lk_app, lk_none (by simp)]
              exact lk_fam hr', rfl, by rw [ints_len]; exact (hokN.get (List.mem_range.1 hr)).1⟩)
          have hrows : ((List.range i).map fun r => [D.sl false (ints (N.getD r []))]) = iis N := by
            apply List.ext_getElem
            · simp [iis, hokN.len]
            · intro r h1 h2
              have : r < N.length := by simpa [iis] using h2
              simp [iis, List.getD, this]
          refine awp_pureO 80002 (o := { sz := 1, rows := ownRows i L, flat := false }) (by simp (maxSteps := 4000000) only [↓reduceIte, Nat.reduceLT, Nat.reduceEqDiff, reduceCtorEq, Nat.reduceAdd, Nat.reduceMul, Int.reduceLE, Int.reduceLT, Int.reduceToNat, Nat.reduceLeDiff, Nat.reduceSub, Int.reduceEq, Nat.reduceBEq, List.replicate, List.set, if_false, if_true, ne_eq, false_implies, implies_true, evA]) rfl hpe hpp (by simp) ?_
          simp only [hrows]
          have hcon : ∀ k, decide (k < 90000) = true → ((List.range i).map (· + 90000)).contains k = false := fun k h => map90000_has h
          have c1 := hcon 1000 rfl
          have c2 := hcon 1001 rfl
          have c3 := hcon 80001 rfl
          have c4 := hcon 80002 rfl
          have hfl := finD_len fin i
          have hft : List.take i (finD fin i) = finD fin i := List.take_of_length_le (by omega)
          have hil := hokN.len
          have hit : List.take i N = N := List.take_of_length_le (by omega)
          refine awp_at 112 [(0, _), (5, _), (6, _), (7, _), (11, _)] [(1000, _), (1001, _), (80001, _), (80002, _)] rfl (by (first | simp (maxSteps := 4000000) only [↓reduceIte, Nat.reduceLT, Nat.reduceEqDiff, reduceCtorEq, Nat.reduceAdd, Nat.reduceMul, Int.reduceLE, Int.reduceLT, Int.reduceToNat, Nat.reduceLeDiff, Nat.reduceSub, Int.reduceEq, Nat.reduceBEq, List.replicate, List.set, if_false, if_true, ne_eq, false_implies, implies_true, evA, c1, c2, c3, c4] | skip); exact ⟨rfl, rfl, rfl, rfl, rfl⟩) (by (first | simp (maxSteps := 4000000) only [↓reduceIte, Nat.reduceLT, Nat.reduceEqDiff, reduceCtorEq, Nat.reduceAdd, Nat.reduceMul, Int.reduceLE, Int.reduceLT, Int.reduceToNat, Nat.reduceLeDiff, Nat.reduceSub, Int.reduceEq, Nat.reduceBEq, List.replicate, List.set, if_false, if_true, ne_eq, false_implies, implies_true, evA, c1, c2, c3, c4] | skip); exact ⟨rfl, rfl, rfl, rfl⟩) ?_
          refine awp_pureO 1001 (by simp (maxSteps := 4000000) only [↓reduceIte, Nat.reduceLT, Nat.reduceEqDiff, reduceCtorEq, Nat.reduceAdd, Nat.reduceMul, Int.reduceLE, Int.reduceLT, Int.reduceToNat, Nat.reduceLeDiff, Nat.reduceSub, Int.reduceEq, Nat.reduceBEq, List.replicate, List.set, if_false, if_true, ne_eq, false_implies, implies_true, evA]; rfl) rfl (by simp (maxSteps := 4000000) only [↓reduceIte, Nat.reduceLT, Nat.reduceEqDiff, reduceCtorEq, Nat.reduceAdd, Nat.reduceMul, Int.reduceLE, Int.reduceLT, Int.reduceToNat, Nat.reduceLeDiff, Nat.reduceSub, Int.reduceEq, Nat.reduceBEq, List.replicate, List.set, if_false, if_true, ne_eq, false_implies, implies_true, evA, bos_len, bos_take, iis_len, iis_take, hfl, hft, hil, hit]; rfl) (by simp (maxSteps := 4000000) only [↓reduceIte, Nat.reduceLT, Nat.reduceEqDiff, reduceCtorEq, Nat.reduceAdd, Nat.reduceMul, Int.reduceLE, Int.reduceLT, Int.reduceToNat, Nat.reduceLeDiff, Nat.reduceSub, Int.reduceEq, Nat.reduceBEq, List.replicate, List.set, if_false, if_true, ne_eq, false_implies, implies_true, evA, bos_len, iis_len, hfl, hil]) (by decide) ?_
          refine awp_at 112 [(0, _), (5, _), (6, _), (7, _), (11, _)] [(1000, _), (1001, _)] rfl (by (first | simp (maxSteps := 4000000) only [↓reduceIte, Nat.reduceLT, Nat.reduceEqDiff, reduceCtorEq, Nat.reduceAdd, Nat.reduceMul, Int.reduceLE, Int.reduceLT, Int.reduceToNat, Nat.reduceLeDiff, Nat.reduceSub, Int.reduceEq, Nat.reduceBEq, List.replicate, List.set, if_false, if_true, ne_eq, false_implies, implies_true, evA] | skip); exact ⟨rfl, rfl, rfl, rfl, rfl⟩) (by (first | simp (maxSteps := 4000000) only [↓reduceIte, Nat.reduceLT, Nat.reduceEqDiff, reduceCtorEq, Nat.reduceAdd, Nat.reduceMul, Int.reduceLE, Int.reduceLT, Int.reduceToNat, Nat.reduceLeDiff, Nat.reduceSub, Int.reduceEq, Nat.reduceBEq, List.replicate, List.set, if_false, if_true, ne_eq, false_implies, implies_true, evA] | skip); exact ⟨rfl, rfl⟩) ?_
          have hsw : lowB 255 (z1.fdiv (2 ^ min 3 IntKind.i64.bits)) % i = startD z1 := by rw [startD, ek]
          have hs1 := startD_lt z1
          rw [← ek] at hs1
          have wS : IntKind.i64.wrap ((startD z1 : Nat) : Int) = ((startD z1 : Nat) : Int) := i64_in (by omega) (by omega)
          have z3' : (((i : Nat) : Int) = 0) = False := eq_false (by omega)
          have z1' : (((i : Nat) : Int) == 0) = false := by simp; omega
          rcases hcases with q | ⟨q1, q2⟩ | ⟨q1, q2, q3⟩
          · (repeat (first | refine awp_seq ?_ | refine awp_block ?_ | ((first | refine awp_skip ?_ | refine awp_exit ?_ | refine awp_reg ttok ?_ | (refine awp_draw ttok ?dr_calm ?_; (case dr_calm => decide +kernel)) | refine awp_condM ?_); simp (maxSteps := 4000000) only [↓reduceIte, Nat.reduceLT, Nat.reduceEqDiff, reduceCtorEq, Nat.reduceAdd, Nat.reduceMul, Int.reduceLE, Int.reduceLT, Int.reduceToNat, Nat.reduceLeDiff, Nat.reduceSub, Int.reduceEq, Nat.reduceBEq, List.replicate, List.set, if_false, if_true, ne_eq, false_implies, implies_true, evA, tyA, q, tri_len, lowW255, tmodN, hsw, wS, z1', z3']; (repeat (with_reducible refine And.intro ?_ ?_; focus ((repeat' with_reducible apply And.intro) <;> (first | omega | with_reducible trivial | with_reducible assumption)))); (with_reducible first | refine awp_id ?_ | refine id_call ?_ | refine id_and ?_ | refine id_ex ?_ | refine id_all ?_ | refine id_nat ?_ | refine id_le ?_))))
            exact awp_ret (endsV [] (.inr rfl) (by simp (maxSteps := 4000000) only [↓reduceIte, Nat.reduceLT, Nat.reduceEqDiff, reduceCtorEq, Nat.reduceAdd, Nat.reduceMul, Int.reduceLE, Int.reduceLT, Int.reduceToNat, Nat.reduceLeDiff, Nat.reduceSub, Int.reduceEq, Nat.reduceBEq, List.replicate, List.set, if_false, if_true, ne_eq, false_implies, implies_true, evA, tyA, dfaD]; rfl) trivial (by simp (maxSteps := 4000000) only [↓reduceIte, Nat.reduceLT, Nat.reduceEqDiff, reduceCtorEq, Nat.reduceAdd, Nat.reduceMul, Int.reduceLE, Int.reduceLT, Int.reduceToNat, Nat.reduceLeDiff, Nat.reduceSub, Int.reduceEq, Nat.reduceBEq, List.replicate, List.set, if_false, if_true, ne_eq, false_implies, implies_true, evA]))
          · (repeat (first | refine awp_seq ?_ | refine awp_block ?_ | ((first | refine awp_skip ?_ | refine awp_exit ?_ | refine awp_reg ttok ?_ | (refine awp_draw ttok ?dr_calm ?_; (case dr_calm => decide +kernel)) | refine awp_condM ?_); simp (maxSteps := 4000000) only [↓reduceIte, Nat.reduceLT, Nat.reduceEqDiff, reduceCtorEq, Nat.reduceAdd, Nat.reduceMul, Int.reduceLE, Int.reduceLT, Int.reduceToNat, Nat.reduceLeDiff, Nat.reduceSub, Int.reduceEq, Nat.reduceBEq, List.replicate, List.set, if_false, if_true, ne_eq, false_implies, implies_true, evA, tyA, q1, q2, tri_len, lowW255, tmodN, hsw, wS, z1', z3']; (repeat (with_reducible refine And.intro ?_ ?_; focus ((repeat' with_reducible apply And.intro) <;> (first | omega | with_reducible trivial | with_reducible assumption)))); (with_reducible first | refine awp_id ?_ | refine id_call ?_ | refine id_and ?_ | refine id_ex ?_ | refine id_all ?_ | refine id_nat ?_ | refine id_le ?_))))
            exact awp_ret (endsV [] (.inr rfl) (by simp (maxSteps := 4000000) only [↓reduceIte, Nat.reduceLT, Nat.reduceEqDiff, reduceCtorEq, Nat.reduceAdd, Nat.reduceMul, Int.reduceLE, Int.reduceLT, Int.reduceToNat, Nat.reduceLeDiff, Nat.reduceSub, Int.reduceEq, Nat.reduceBEq, List.replicate, List.set, if_false, if_true, ne_eq, false_implies, implies_true, evA, tyA, dfaD]; rfl) trivial (by simp (maxSteps := 4000000) only [↓reduceIte, Nat.reduceLT, Nat.reduceEqDiff, reduceCtorEq, Nat.reduceAdd, Nat.reduceMul, Int.reduceLE, Int.reduceLT, Int.reduceToNat, Nat.reduceLeDiff, Nat.reduceSub, Int.reduceEq, Nat.reduceBEq, List.replicate, List.set, if_false, if_true, ne_eq, false_implies, implies_true, evA]))
          · (repeat (first | refine awp_seq ?_ | refine awp_block ?_ | ((first | refine awp_skip ?_ | refine awp_exit ?_ | refine awp_reg ttok ?_ | (refine awp_draw ttok ?dr_calm ?_; (case dr_calm => decide +kernel)) | refine awp_condM ?_); simp (maxSteps := 4000000) only [↓reduceIte, Nat.reduceLT, Nat.reduceEqDiff, reduceCtorEq, Nat.reduceAdd, Nat.reduceMul, Int.reduceLE, Int.reduceLT, Int.reduceToNat, Nat.reduceLeDiff, Nat.reduceSub, Int.reduceEq, Nat.reduceBEq, List.replicate, List.set, if_false, if_true, ne_eq, false_implies, implies_true, evA, tyA, q1, q2, q3, tri_len, lowW255, tmodN, hsw, wS, z1', z3']; (repeat (with_reducible refine And.intro ?_ ?_; focus ((repeat' with_reducible apply And.intro) <;> (first | omega | with_reducible trivial | with_reducible assumption)))); (with_reducible first | refine awp_id ?_ | refine id_call ?_ | refine id_and ?_ | refine id_ex ?_ | refine id_all ?_ | refine id_nat ?_ | refine id_le ?_))))
            exact awp_ret (endsV [] (.inr rfl) (by simp (maxSteps := 4000000) only [↓reduceIte, Nat.reduceLT, Nat.reduceEqDiff, reduceCtorEq, Nat.reduceAdd, Nat.reduceMul, Int.reduceLE, Int.reduceLT, Int.reduceToNat, Nat.reduceLeDiff, Nat.reduceSub, Int.reduceEq, Nat.reduceBEq, List.replicate, List.set, if_false, if_true, ne_eq, false_implies, implies_true, evA, tyA, dfaD]; rfl) trivial (by simp (maxSteps := 4000000) only [↓reduceIte, Nat.reduceLT, Nat.reduceEqDiff, reduceCtorEq, Nat.reduceAdd, Nat.reduceMul, Int.reduceLE, Int.reduceLT, Int.reduceToNat, Nat.reduceLeDiff, Nat.reduceSub, Int.reduceEq, Nat.reduceBEq, List.replicate, List.set, if_false, if_true, ne_eq, false_implies, implies_true, evA]))

end Go.Proofs.Ytbhjmioegdgpnaa
