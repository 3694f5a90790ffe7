/-
  The awake of layer 51's statements; algebra.Of of a kind that there is not.
-/
import Derived.Test.YtcfnbofapjgepaaOn
namespace Go.Proofs.Ytcfnbofapjgepaa
open Go.Ab
set_option linter.unusedSimpArgs false
set_option linter.unusedVariables false

theorem nOk_x : NOk 2 3 (oneNx 2 [0, 1] 3) := ⟨rfl, by decide⟩
theorem nOk_y : NOk 2 2 (oneNx 2 [1] 2) := ⟨rfl, by decide⟩
def zF : List Bool := [false, false, true]
def zN : List (List Int) := [[1, 2], [-1, 2], [-1, -1]]
theorem nOk_z : NOk 2 3 zN := ⟨rfl, by decide⟩
theorem zR : ofR 2 0 (pFin 2 (oneFin [0, 1] 3) (oneFin [1] 2) (pAll (oneNx 2 [0, 1] 3) (oneNx 2 [1] 2) (((0 : Nat) : Int), ((0 : Nat) : Int)) 2)) (pNx (oneNx 2 [0, 1] 3) (oneNx 2 [1] 2) 2 (pAll (oneNx 2 [0, 1] 3) (oneNx 2 [1] 2) (((0 : Nat) : Int), ((0 : Nat) : Int)) 2)) = .tup [dfaD 2 0 zF zN, i64 0] := by
  have e1 : pAll (oneNx 2 [0, 1] 3) (oneNx 2 [1] 2) (((0 : Nat) : Int), ((0 : Nat) : Int)) 2 = [(0, 0), (1, -1), (-1, 1), (2, -1)] := by decide +kernel
  rw [e1]
  have e2 : pFin 2 (oneFin [0, 1] 3) (oneFin [1] 2) [(0, 0), (1, -1), (-1, 1), (2, -1)] = [false, false, true, true] := by decide +kernel
  have e3 : pNx (oneNx 2 [0, 1] 3) (oneNx 2 [1] 2) 2 [(0, 0), (1, -1), (-1, 1), (2, -1)] = [[1, 2], [-1, 3], [-1, -1], [-1, -1]] := by decide +kernel
  rw [e2, e3]
  have e4 : clsF [false, false, true, true] [[1, 2], [-1, 3], [-1, -1], [-1, -1]] = [0, 1, 2, 2] := by decide +kernel
  unfold ofR
  rw [e4, if_pos (by decide)]
  have e5 : oAll [[1, 2], [-1, 3], [-1, -1], [-1, -1]] [0, 1, 2, 2] 0 = [0, 1, 2] := by decide +kernel
  rw [e5]
  have e6 : oFin [false, false, true, true] [0, 1, 2] = zF := by decide +kernel
  have e7 : oNx [[1, 2], [-1, 3], [-1, -1], [-1, -1]] [0, 1, 2, 2] [0, 1, 2] = zN := by decide +kernel
  rw [e6, e7]
theorem wR : ∃ F N, F.length = 2 ∧ N.length = 2 ∧ ofR 2 0 (pFin 1 zF (oneFin [1] 2) (pAll zN (oneNx 2 [1] 2) (((0 : Nat) : Int), ((0 : Nat) : Int)) 2)) (pNx zN (oneNx 2 [1] 2) 2 (pAll zN (oneNx 2 [1] 2) (((0 : Nat) : Int), ((0 : Nat) : Int)) 2)) = .tup [dfaD 2 0 F N, i64 0] := by
  unfold ofR
  rw [if_pos (by decide +kernel)]
  refine ⟨_, _, ?_, ?_, rfl⟩
  · decide +kernel
  · decide +kernel
theorem vR : (!decide (0 ≤ (clsF (pFin 3 (oneFin [1] 2) zF (pAll (oneNx 2 [1] 2) zN (((0 : Nat) : Int), ((0 : Nat) : Int)) 2)) (pNx (oneNx 2 [1] 2) zN 2 (pAll (oneNx 2 [1] 2) zN (((0 : Nat) : Int), ((0 : Nat) : Int)) 2))).getD 0 0)) = true := by decide +kernel

set_option maxRecDepth 20000 in
set_option maxHeartbeats 16000000 in
theorem c_awake51 : Contract Try.prog 21 [] (bo true) [] := by
  refine contract_of_awp (rs := [0]) Try.func21 rfl Try.ntmps21 (by simp) rfl fun E => ?_
  have hx := c_One false 2 [0, 1] (by decide) (by decide) (by decide)
  have hy := c_One false 2 [1] (by decide) (by decide) (by decide)
  have hz := c_AOf nOk_x nOk_y 0 0 (by decide) (by decide) (oneFin [0, 1] 3) (oneFin [1] 2) rfl rfl (by decide) (by decide) (by decide) (by decide) 2 (by decide)
  rw [zR] at hz
  have hw := c_AOf nOk_z nOk_y 0 0 (by decide) (by decide) zF (oneFin [1] 2) rfl rfl (by decide) (by decide) (by decide) (by decide) 1 (by decide)
  obtain ⟨WF, WN, hW1, hW2, hW3⟩ := wR
  rw [hW3] at hw
  have hv := c_Within nOk_y nOk_z 0 0 (by decide) (by decide) (oneFin [1] 2) zF rfl rfl (by decide) (by decide) (by decide) (by decide)
  rw [vR] at hv
  have k0 : ((0 : Int) == 0) = true := rfl
  have k1 : ((2 : Int) == 2) = true := rfl
  have k2 : (((2 : Nat) : Int) == 2) = true := rfl
  have k3 : (((3 : Nat) : Int) == 3) = true := rfl
  have k4 : zN.length = 3 := rfl
  have n2 : [0, 1].length + 1 = 3 := rfl
  (repeat (first | refine awp_seq ?_ | refine awp_block ?_ | ((first | refine awp_skip ?_ | refine awp_exit ?_ | refine awp_reg ttok ?_ | (refine awp_draw ttok ?dr_calm ?_; (case dr_calm => decide +kernel)) | refine awp_condM ?_); simp (maxSteps := 4000000) only [↓reduceIte, Nat.reduceLT, Nat.reduceEqDiff, reduceCtorEq, Nat.reduceAdd, Nat.reduceMul, Int.reduceLE, Int.reduceLT, Int.reduceToNat, Nat.reduceLeDiff, Nat.reduceSub, Int.reduceEq, Nat.reduceBEq, List.replicate, List.set, if_false, if_true, ne_eq, false_implies, implies_true, evA, tyA]; (repeat (with_reducible refine And.intro ?_ ?_; focus ((repeat' with_reducible apply And.intro) <;> (first | omega | with_reducible trivial | with_reducible assumption)))); (with_reducible first | refine awp_id ?_ | refine id_call ?_ | refine id_and ?_ | refine id_ex ?_ | refine id_all ?_ | refine id_nat ?_ | refine id_le ?_))))
  refine callVC_mk fnok38 hx rfl ?_
  simp (maxSteps := 4000000) only [↓reduceIte, Nat.reduceLT, Nat.reduceEqDiff, reduceCtorEq, Nat.reduceAdd, Nat.reduceMul, Int.reduceLE, Int.reduceLT, Int.reduceToNat, Nat.reduceLeDiff, Nat.reduceSub, Int.reduceEq, Nat.reduceBEq, List.replicate, List.set, if_false, if_true, ne_eq, false_implies, implies_true, evA, tyA, dfaD]
  (repeat (with_reducible refine And.intro ?_ ?_; focus ((repeat' with_reducible apply And.intro) <;> (first | omega | with_reducible trivial | with_reducible assumption))))
  (repeat (first | refine awp_seq ?_ | refine awp_block ?_ | ((first | refine awp_skip ?_ | refine awp_exit ?_ | refine awp_reg ttok ?_ | (refine awp_draw ttok ?dr_calm ?_; (case dr_calm => decide +kernel)) | refine awp_condM ?_); simp (maxSteps := 4000000) only [↓reduceIte, Nat.reduceLT, Nat.reduceEqDiff, reduceCtorEq, Nat.reduceAdd, Nat.reduceMul, Int.reduceLE, Int.reduceLT, Int.reduceToNat, Nat.reduceLeDiff, Nat.reduceSub, Int.reduceEq, Nat.reduceBEq, List.replicate, List.set, if_false, if_true, ne_eq, false_implies, implies_true, evA, tyA]; (repeat (with_reducible refine And.intro ?_ ?_; focus ((repeat' with_reducible apply And.intro) <;> (first | omega | with_reducible trivial | with_reducible assumption)))); (with_reducible first | refine awp_id ?_ | refine id_call ?_ | refine id_and ?_ | refine id_ex ?_ | refine id_all ?_ | refine id_nat ?_ | refine id_le ?_))))
  refine callVC_mk fnok38 hy rfl ?_
  simp (maxSteps := 4000000) only [↓reduceIte, Nat.reduceLT, Nat.reduceEqDiff, reduceCtorEq, Nat.reduceAdd, Nat.reduceMul, Int.reduceLE, Int.reduceLT, Int.reduceToNat, Nat.reduceLeDiff, Nat.reduceSub, Int.reduceEq, Nat.reduceBEq, List.replicate, List.set, if_false, if_true, ne_eq, false_implies, implies_true, evA, tyA, dfaD]
  (repeat (with_reducible refine And.intro ?_ ?_; focus ((repeat' with_reducible apply And.intro) <;> (first | omega | with_reducible trivial | with_reducible assumption))))
  (repeat (first | refine awp_seq ?_ | refine awp_block ?_ | ((first | refine awp_skip ?_ | refine awp_exit ?_ | refine awp_reg ttok ?_ | (refine awp_draw ttok ?dr_calm ?_; (case dr_calm => decide +kernel)) | refine awp_condM ?_); simp (maxSteps := 4000000) only [↓reduceIte, Nat.reduceLT, Nat.reduceEqDiff, reduceCtorEq, Nat.reduceAdd, Nat.reduceMul, Int.reduceLE, Int.reduceLT, Int.reduceToNat, Nat.reduceLeDiff, Nat.reduceSub, Int.reduceEq, Nat.reduceBEq, List.replicate, List.set, if_false, if_true, ne_eq, false_implies, implies_true, evA, tyA]; (repeat (with_reducible refine And.intro ?_ ?_; focus ((repeat' with_reducible apply And.intro) <;> (first | omega | with_reducible trivial | with_reducible assumption)))); (with_reducible first | refine awp_id ?_ | refine id_call ?_ | refine id_and ?_ | refine id_ex ?_ | refine id_all ?_ | refine id_nat ?_ | refine id_le ?_))))
  refine callVC_mk fnok20 hz rfl ?_
  simp (maxSteps := 4000000) only [↓reduceIte, Nat.reduceLT, Nat.reduceEqDiff, reduceCtorEq, Nat.reduceAdd, Nat.reduceMul, Int.reduceLE, Int.reduceLT, Int.reduceToNat, Nat.reduceLeDiff, Nat.reduceSub, Int.reduceEq, Nat.reduceBEq, List.replicate, List.set, if_false, if_true, ne_eq, false_implies, implies_true, evA, tyA, dfaD]
  (repeat (with_reducible refine And.intro ?_ ?_; focus ((repeat' with_reducible apply And.intro) <;> (first | omega | with_reducible trivial | with_reducible assumption))))
  (repeat (first | refine awp_seq ?_ | refine awp_block ?_ | ((first | refine awp_skip ?_ | refine awp_exit ?_ | refine awp_reg ttok ?_ | (refine awp_draw ttok ?dr_calm ?_; (case dr_calm => decide +kernel)) | refine awp_condM ?_); simp (maxSteps := 4000000) only [↓reduceIte, Nat.reduceLT, Nat.reduceEqDiff, reduceCtorEq, Nat.reduceAdd, Nat.reduceMul, Int.reduceLE, Int.reduceLT, Int.reduceToNat, Nat.reduceLeDiff, Nat.reduceSub, Int.reduceEq, Nat.reduceBEq, List.replicate, List.set, if_false, if_true, ne_eq, false_implies, implies_true, evA, tyA]; (repeat (with_reducible refine And.intro ?_ ?_; focus ((repeat' with_reducible apply And.intro) <;> (first | omega | with_reducible trivial | with_reducible assumption)))); (with_reducible first | refine awp_id ?_ | refine id_call ?_ | refine id_and ?_ | refine id_ex ?_ | refine id_all ?_ | refine id_nat ?_ | refine id_le ?_))))
  refine callVC_mk fnok20 hw rfl ?_
  simp (maxSteps := 4000000) only [↓reduceIte, Nat.reduceLT, Nat.reduceEqDiff, reduceCtorEq, Nat.reduceAdd, Nat.reduceMul, Int.reduceLE, Int.reduceLT, Int.reduceToNat, Nat.reduceLeDiff, Nat.reduceSub, Int.reduceEq, Nat.reduceBEq, List.replicate, List.set, if_false, if_true, ne_eq, false_implies, implies_true, evA, tyA, dfaD]
  (repeat (with_reducible refine And.intro ?_ ?_; focus ((repeat' with_reducible apply And.intro) <;> (first | omega | with_reducible trivial | with_reducible assumption))))
  (repeat (first | refine awp_seq ?_ | refine awp_block ?_ | ((first | refine awp_skip ?_ | refine awp_exit ?_ | refine awp_reg ttok ?_ | (refine awp_draw ttok ?dr_calm ?_; (case dr_calm => decide +kernel)) | refine awp_condM ?_); simp (maxSteps := 4000000) only [↓reduceIte, Nat.reduceLT, Nat.reduceEqDiff, reduceCtorEq, Nat.reduceAdd, Nat.reduceMul, Int.reduceLE, Int.reduceLT, Int.reduceToNat, Nat.reduceLeDiff, Nat.reduceSub, Int.reduceEq, Nat.reduceBEq, List.replicate, List.set, if_false, if_true, ne_eq, false_implies, implies_true, evA, tyA]; (repeat (with_reducible refine And.intro ?_ ?_; focus ((repeat' with_reducible apply And.intro) <;> (first | omega | with_reducible trivial | with_reducible assumption)))); (with_reducible first | refine awp_id ?_ | refine id_call ?_ | refine id_and ?_ | refine id_ex ?_ | refine id_all ?_ | refine id_nat ?_ | refine id_le ?_))))
  refine callVC_scal fnok19 hv rfl ?_
  simp (maxSteps := 4000000) only [↓reduceIte, Nat.reduceLT, Nat.reduceEqDiff, reduceCtorEq, Nat.reduceAdd, Nat.reduceMul, Int.reduceLE, Int.reduceLT, Int.reduceToNat, Nat.reduceLeDiff, Nat.reduceSub, Int.reduceEq, Nat.reduceBEq, List.replicate, List.set, if_false, if_true, ne_eq, false_implies, implies_true, evA, tyA]
  (repeat (with_reducible refine And.intro ?_ ?_; focus ((repeat' with_reducible apply And.intro) <;> (first | omega | with_reducible trivial | with_reducible assumption))))
  (repeat (first | refine awp_seq ?_ | refine awp_block ?_ | ((first | refine awp_skip ?_ | refine awp_exit ?_ | refine awp_reg ttok ?_ | (refine awp_draw ttok ?dr_calm ?_; (case dr_calm => decide +kernel)) | refine awp_condM ?_); simp (maxSteps := 4000000) only [↓reduceIte, Nat.reduceLT, Nat.reduceEqDiff, reduceCtorEq, Nat.reduceAdd, Nat.reduceMul, Int.reduceLE, Int.reduceLT, Int.reduceToNat, Nat.reduceLeDiff, Nat.reduceSub, Int.reduceEq, Nat.reduceBEq, List.replicate, List.set, if_false, if_true, ne_eq, false_implies, implies_true, evA, tyA, k0, k1, k2, k3, k4, iis_len, hW2]; (repeat (with_reducible refine And.intro ?_ ?_; focus ((repeat' with_reducible apply And.intro) <;> (first | omega | with_reducible trivial | with_reducible assumption)))); (with_reducible first | refine awp_id ?_ | refine id_call ?_ | refine id_and ?_ | refine id_ex ?_ | refine id_all ?_ | refine id_nat ?_ | refine id_le ?_))))
  exact awp_ret (ends_plain (.inr rfl) rfl (by simp (maxSteps := 4000000) only [↓reduceIte, Nat.reduceLT, Nat.reduceEqDiff, reduceCtorEq, Nat.reduceAdd, Nat.reduceMul, Int.reduceLE, Int.reduceLT, Int.reduceToNat, Nat.reduceLeDiff, Nat.reduceSub, Int.reduceEq, Nat.reduceBEq, List.replicate, List.set, if_false, if_true, ne_eq, false_implies, implies_true, evA]))

end Go.Proofs.Ytcfnbofapjgepaa
