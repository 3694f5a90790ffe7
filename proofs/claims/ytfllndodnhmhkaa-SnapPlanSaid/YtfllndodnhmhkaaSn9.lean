/-
  The contracts of galliardlaw37.bytes, awake37.
-/
import Derived.Test.YtfllndodnhmhkaaSn5
import Derived.Test.YtfllndodnhmhkaaSnP
import Derived.Test.YtfllndodnhmhkaaCrcP
namespace Go.Proofs.Ytfllndodnhmhkaa
open Go.Ab
set_option linter.unusedSimpArgs false
set_option linter.unusedVariables false

theorem gen_head (n : BitVec 32) : genOk (headB n) = true ∧ get4 (headB n) 4 = n := by
  have h1 : get4 (headB n) 4 = n := by
    have := get4_app gall n
    rw [headB, List.append_assoc, get4_pre (l := gall ++ put4 n) (i := 4) (by simp [put4_len, gall])]
    exact this
  have h2 : get4 (headB n) 8 = crcSum (put4 n) := by
    have := get4_app (gall ++ put4 n) (crcSum (put4 n))
    rw [headB, get4_pre (show 8 + 4 ≤ (gall ++ put4 n ++ put4 (crcSum (put4 n))).length by simp [put4_len, gall])]
    exact this
  have h3 : (headB n).take 4 = gall := by
    rw [headB, List.append_assoc, List.append_assoc]; rfl
  have h4 : ((headB n).drop 4).take 4 = put4 n := by
    rw [headB, List.append_assoc, List.append_assoc]; rfl
  refine ⟨?_, h1⟩
  rw [genOk, headB_len, h3, h2, h4]
  simp

set_option maxRecDepth 20000 in
set_option maxHeartbeats 16000000 in
theorem c_awake37 : Contract Try.prog 23 [] (bo true) [] := by
  refine contract_of_awp (rs := [0]) Try.func23 rfl Try.ntmps23 (by simp) rfl fun E => ?_
  have hw : IntKind.u32.wrap 7 = (((7 : BitVec 32).toNat : Nat) : Int) := rfl
  have hH := c_Head 7 7 hw
  obtain ⟨g1, g2⟩ := gen_head 7
  have g3 : genV (headB 7) = 7 := by rw [genV, g1, if_pos rfl, g2]; rfl
  have hl32 := headB_len 7
  have ht32 : List.take 32 (headB 7) = headB 7 := List.take_of_length_le (by omega)
  have hG := c_Gen false (headB 7) (by omega)
  rw [g1, g3] at hG
  have hm : mayB 0 5 [] [] = true := by decide
  have hP := c_sPut 3 0 5 true true [] [] hm (by decide) (by decide)
  have hq := get_put hm (show (0 : Int) ≤ 3 by decide) (show (3 : Int) ≤ 2147483647 by decide)
  have hpl := cps_len (snapNums 3 0 5 [] []) (by decide)
  have hGet := c_sGet codeGet_le false (cps (snapNums 3 0 5 [] [])) (by have : (snapNums 3 0 5 [] []).length = 4 := rfl; omega)
  rw [hq] at hGet
  generalize cps (snapNums 3 0 5 [] []) = p at *
  generalize headB 7 = h at *
  (repeat (first | refine awp_seq ?_ | refine awp_block ?_ | ((first | refine awp_skip ?_ | refine awp_exit ?_ | refine awp_reg ttok ?_ | (refine awp_draw ttok ?dr_calm ?_; (case dr_calm => decide +kernel)) | refine awp_condM ?_); simp (maxSteps := 4000000) only [↓reduceIte, Nat.reduceLT, Nat.reduceEqDiff, reduceCtorEq, Nat.reduceAdd, Nat.reduceMul, Int.reduceLE, Int.reduceLT, Int.reduceToNat, Nat.reduceLeDiff, Nat.reduceSub, Int.reduceEq, Nat.reduceBEq, List.replicate, List.set, if_false, if_true, ne_eq, false_implies, implies_true, evD0, evD1, evD2, evD3, evD4, evD5, evD6, evT, tyA0, tyA1, tyA2, tyA3, tyA4, tyA5, tyA6, tyA7, tyA8]; (repeat (with_reducible refine And.intro ?_ ?_; focus ((repeat' with_reducible apply And.intro) <;> (first | omega | with_reducible trivial | with_reducible assumption)))); (with_reducible first | refine awp_id ?_ | refine id_call ?_ | refine id_and ?_ | refine id_ex ?_ | refine id_all ?_ | refine id_le ?_))))
  refine callVC_mk fnok27 hH rfl ?_
  simp (maxSteps := 4000000) only [↓reduceIte, Nat.reduceLT, Nat.reduceEqDiff, reduceCtorEq, Nat.reduceAdd, Nat.reduceMul, Int.reduceLE, Int.reduceLT, Int.reduceToNat, Nat.reduceLeDiff, Nat.reduceSub, Int.reduceEq, Nat.reduceBEq, List.replicate, List.set, if_false, if_true, ne_eq, false_implies, implies_true, evD0, evD1, evD2, evD3, evD4, evD5, evD6, evT, tyA0, tyA1, tyA2, tyA3, tyA4, tyA5, tyA6, tyA7, tyA8, ht32]
  (repeat (with_reducible refine And.intro ?_ ?_; focus ((repeat' with_reducible apply And.intro) <;> (first | omega | with_reducible trivial | with_reducible assumption))))
  refine callVC_mk fnok28 hG rfl ?_
  simp (maxSteps := 4000000) only [↓reduceIte, Nat.reduceLT, Nat.reduceEqDiff, reduceCtorEq, Nat.reduceAdd, Nat.reduceMul, Int.reduceLE, Int.reduceLT, Int.reduceToNat, Nat.reduceLeDiff, Nat.reduceSub, Int.reduceEq, Nat.reduceBEq, List.replicate, List.set, if_false, if_true, ne_eq, false_implies, implies_true, evD0, evD1, evD2, evD3, evD4, evD5, evD6, evT, tyA0, tyA1, tyA2, tyA3, tyA4, tyA5, tyA6, tyA7, tyA8]
  (repeat (with_reducible refine And.intro ?_ ?_; focus ((repeat' with_reducible apply And.intro) <;> (first | omega | with_reducible trivial | with_reducible assumption))))
  (repeat (first | refine awp_seq ?_ | refine awp_block ?_ | ((first | refine awp_skip ?_ | refine awp_exit ?_ | refine awp_reg ttok ?_ | (refine awp_draw ttok ?dr_calm ?_; (case dr_calm => decide +kernel)) | refine awp_condM ?_); simp (maxSteps := 4000000) only [↓reduceIte, Nat.reduceLT, Nat.reduceEqDiff, reduceCtorEq, Nat.reduceAdd, Nat.reduceMul, Int.reduceLE, Int.reduceLT, Int.reduceToNat, Nat.reduceLeDiff, Nat.reduceSub, Int.reduceEq, Nat.reduceBEq, List.replicate, List.set, if_false, if_true, ne_eq, false_implies, implies_true, evD0, evD1, evD2, evD3, evD4, evD5, evD6, evT, tyA0, tyA1, tyA2, tyA3, tyA4, tyA5, tyA6, tyA7, tyA8]; (repeat (with_reducible refine And.intro ?_ ?_; focus ((repeat' with_reducible apply And.intro) <;> (first | omega | with_reducible trivial | with_reducible assumption)))); (with_reducible first | refine awp_id ?_ | refine id_call ?_ | refine id_and ?_ | refine id_ex ?_ | refine id_all ?_ | refine id_le ?_))))
  refine callVC_mk fnok20 hP rfl ?_
  simp (maxSteps := 4000000) only [↓reduceIte, Nat.reduceLT, Nat.reduceEqDiff, reduceCtorEq, Nat.reduceAdd, Nat.reduceMul, Int.reduceLE, Int.reduceLT, Int.reduceToNat, Nat.reduceLeDiff, Nat.reduceSub, Int.reduceEq, Nat.reduceBEq, List.replicate, List.set, if_false, if_true, ne_eq, false_implies, implies_true, evD0, evD1, evD2, evD3, evD4, evD5, evD6, evT, tyA0, tyA1, tyA2, tyA3, tyA4, tyA5, tyA6, tyA7, tyA8, List.take_length]
  (repeat (with_reducible refine And.intro ?_ ?_; focus ((repeat' with_reducible apply And.intro) <;> (first | omega | with_reducible trivial | with_reducible assumption))))
  refine callVC_mk fnok22 hGet rfl ?_
  simp (maxSteps := 4000000) only [↓reduceIte, Nat.reduceLT, Nat.reduceEqDiff, reduceCtorEq, Nat.reduceAdd, Nat.reduceMul, Int.reduceLE, Int.reduceLT, Int.reduceToNat, Nat.reduceLeDiff, Nat.reduceSub, Int.reduceEq, Nat.reduceBEq, List.replicate, List.set, if_false, if_true, ne_eq, false_implies, implies_true, evD0, evD1, evD2, evD3, evD4, evD5, evD6, evT, tyA0, tyA1, tyA2, tyA3, tyA4, tyA5, tyA6, tyA7, tyA8]
  (repeat (with_reducible refine And.intro ?_ ?_; focus ((repeat' with_reducible apply And.intro) <;> (first | omega | with_reducible trivial | with_reducible assumption))))
  (repeat (first | refine awp_seq ?_ | refine awp_block ?_ | ((first | refine awp_skip ?_ | refine awp_exit ?_ | refine awp_reg ttok ?_ | (refine awp_draw ttok ?dr_calm ?_; (case dr_calm => decide +kernel)) | refine awp_condM ?_); simp (maxSteps := 4000000) only [↓reduceIte, Nat.reduceLT, Nat.reduceEqDiff, reduceCtorEq, Nat.reduceAdd, Nat.reduceMul, Int.reduceLE, Int.reduceLT, Int.reduceToNat, Nat.reduceLeDiff, Nat.reduceSub, Int.reduceEq, Nat.reduceBEq, List.replicate, List.set, if_false, if_true, ne_eq, false_implies, implies_true, evD0, evD1, evD2, evD3, evD4, evD5, evD6, evT, tyA0, tyA1, tyA2, tyA3, tyA4, tyA5, tyA6, tyA7, tyA8]; (repeat (with_reducible refine And.intro ?_ ?_; focus ((repeat' with_reducible apply And.intro) <;> (first | omega | with_reducible trivial | with_reducible assumption)))); (with_reducible first | refine awp_id ?_ | refine id_call ?_ | refine id_and ?_ | refine id_ex ?_ | refine id_all ?_ | refine id_le ?_))))
  refine callVC_mk fnok27 hH rfl ?_
  simp (maxSteps := 4000000) only [↓reduceIte, Nat.reduceLT, Nat.reduceEqDiff, reduceCtorEq, Nat.reduceAdd, Nat.reduceMul, Int.reduceLE, Int.reduceLT, Int.reduceToNat, Nat.reduceLeDiff, Nat.reduceSub, Int.reduceEq, Nat.reduceBEq, List.replicate, List.set, if_false, if_true, ne_eq, false_implies, implies_true, evD0, evD1, evD2, evD3, evD4, evD5, evD6, evT, tyA0, tyA1, tyA2, tyA3, tyA4, tyA5, tyA6, tyA7, tyA8]
  (repeat (with_reducible refine And.intro ?_ ?_; focus ((repeat' with_reducible apply And.intro) <;> (first | omega | with_reducible trivial | with_reducible assumption))))
  (repeat (first | refine awp_seq ?_ | refine awp_block ?_ | ((first | refine awp_skip ?_ | refine awp_exit ?_ | refine awp_reg ttok ?_ | (refine awp_draw ttok ?dr_calm ?_; (case dr_calm => decide +kernel)) | refine awp_condM ?_); simp (maxSteps := 4000000) only [↓reduceIte, Nat.reduceLT, Nat.reduceEqDiff, reduceCtorEq, Nat.reduceAdd, Nat.reduceMul, Int.reduceLE, Int.reduceLT, Int.reduceToNat, Nat.reduceLeDiff, Nat.reduceSub, Int.reduceEq, Nat.reduceBEq, List.replicate, List.set, if_false, if_true, ne_eq, false_implies, implies_true, evD0, evD1, evD2, evD3, evD4, evD5, evD6, evT, tyA0, tyA1, tyA2, tyA3, tyA4, tyA5, tyA6, tyA7, tyA8]; (repeat (with_reducible refine And.intro ?_ ?_; focus ((repeat' with_reducible apply And.intro) <;> (first | omega | with_reducible trivial | with_reducible assumption)))); (with_reducible first | refine awp_id ?_ | refine id_call ?_ | refine id_and ?_ | refine id_ex ?_ | refine id_all ?_ | refine id_le ?_))))
  exact awp_ret (ends_plain (.inr rfl) rfl (by simp (maxSteps := 4000000) only [↓reduceIte, Nat.reduceLT, Nat.reduceEqDiff, reduceCtorEq, Nat.reduceAdd, Nat.reduceMul, Int.reduceLE, Int.reduceLT, Int.reduceToNat, Nat.reduceLeDiff, Nat.reduceSub, Int.reduceEq, Nat.reduceBEq, List.replicate, List.set, if_false, if_true, ne_eq, false_implies, implies_true, evD0, evD1, evD2, evD3, evD4, evD5, evD6, evT, show (((32 : Nat) : Int) == 32) = true from rfl]))

end Go.Proofs.Ytfllndodnhmhkaa
