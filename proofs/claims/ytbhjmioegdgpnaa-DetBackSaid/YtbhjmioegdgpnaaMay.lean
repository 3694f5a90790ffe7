/-
  The contracts of det.May (of what may be), mini.Live.
-/
import Derived.Test.YtbhjmioegdgpnaaLv
import Derived.Test.YtbhjmioegdgpnaaIdx
namespace Go.Proofs.Ytbhjmioegdgpnaa
open Go.Ab
set_option linter.unusedSimpArgs false
set_option linter.unusedVariables false

abbrev dfaR (L s : Nat) (F : List Bool) (N : List (List Int)) : List D := [i64 L, i64 s, .sl false (bos F), .sl false (iis N)]

theorem c_May11 (L st : Nat) (F : List Bool) (N : List (List Int)) (n : Int) : Contract Try.prog 37 [i64 n, .ref (dfaR L st F N) 0] (bo (decide (n < -1) || decide (n ≥ (N.length : Int)))) [] := by
  refine contract_of_awp (rs := [3]) Try.func37 rfl Try.ntmps37 (by simp) rfl fun E => ?_
  cases k1 : decide (n < -1)
  · (repeat (first | refine awp_seq ?_ | refine awp_block ?_ | ((first | refine awp_skip ?_ | refine awp_exit ?_ | refine awp_reg ttok ?_ | (refine awp_draw ttok ?dr_calm ?_; (case dr_calm => decide +kernel)) | refine awp_condM ?_); simp (maxSteps := 4000000) only [↓reduceIte, Nat.reduceLT, Nat.reduceEqDiff, reduceCtorEq, Nat.reduceAdd, Nat.reduceMul, Int.reduceLE, Int.reduceLT, Int.reduceToNat, Nat.reduceLeDiff, Nat.reduceSub, Int.reduceEq, Nat.reduceBEq, List.replicate, List.set, if_false, if_true, ne_eq, false_implies, implies_true, evA, tyA, dfaR, k1, iis_len]; (repeat (with_reducible refine And.intro ?_ ?_; focus ((repeat' with_reducible apply And.intro) <;> (first | omega | with_reducible trivial | with_reducible assumption)))); (with_reducible first | refine awp_id ?_ | refine id_call ?_ | refine id_and ?_ | refine id_ex ?_ | refine id_all ?_ | refine id_nat ?_ | refine id_le ?_))))
    exact awp_ret (ends_plain (.inr rfl) rfl (by simp (maxSteps := 4000000) only [↓reduceIte, Nat.reduceLT, Nat.reduceEqDiff, reduceCtorEq, Nat.reduceAdd, Nat.reduceMul, Int.reduceLE, Int.reduceLT, Int.reduceToNat, Nat.reduceLeDiff, Nat.reduceSub, Int.reduceEq, Nat.reduceBEq, List.replicate, List.set, if_false, if_true, ne_eq, false_implies, implies_true, evA, Bool.false_or]))
  · (repeat (first | refine awp_seq ?_ | refine awp_block ?_ | ((first | refine awp_skip ?_ | refine awp_exit ?_ | refine awp_reg ttok ?_ | (refine awp_draw ttok ?dr_calm ?_; (case dr_calm => decide +kernel)) | refine awp_condM ?_); simp (maxSteps := 4000000) only [↓reduceIte, Nat.reduceLT, Nat.reduceEqDiff, reduceCtorEq, Nat.reduceAdd, Nat.reduceMul, Int.reduceLE, Int.reduceLT, Int.reduceToNat, Nat.reduceLeDiff, Nat.reduceSub, Int.reduceEq, Nat.reduceBEq, List.replicate, List.set, if_false, if_true, ne_eq, false_implies, implies_true, evA, tyA, k1]; (repeat (with_reducible refine And.intro ?_ ?_; focus ((repeat' with_reducible apply And.intro) <;> (first | omega | with_reducible trivial | with_reducible assumption)))); (with_reducible first | refine awp_id ?_ | refine id_call ?_ | refine id_and ?_ | refine id_ex ?_ | refine id_all ?_ | refine id_nat ?_ | refine id_le ?_))))
    exact awp_ret (ends_plain (.inr rfl) rfl (by simp (maxSteps := 4000000) only [↓reduceIte, Nat.reduceLT, Nat.reduceEqDiff, reduceCtorEq, Nat.reduceAdd, Nat.reduceMul, Int.reduceLE, Int.reduceLT, Int.reduceToNat, Nat.reduceLeDiff, Nat.reduceSub, Int.reduceEq, Nat.reduceBEq, List.replicate, List.set, if_false, if_true, ne_eq, false_implies, implies_true, evA, Bool.true_or]))

theorem c_May1 {L k : Nat} {N : List (List Int)} (h : NOk L k N) (hL : L ≤ 100000) (st : Nat) (F : List Bool) (x : List Int) (hx : x ∈ N) : Contract Try.prog 36 [.sl false (ints x), .ref (dfaR L st F N) 0] (bo false) [] := by
  refine contract_of_awp (rs := [3]) Try.func36 rfl Try.ntmps36 (by simp) rfl fun E => ?_
  obtain ⟨h1, h2⟩ := h.row x hx
  have hl := h.len
  have e1 : ((L : Int) != (L : Int)) = false := by simp
  have ha : (x.any fun n => decide (n < -1) || decide (n ≥ (N.length : Int))) = false := by
    rw [List.any_eq_false]
    intro n hn
    have := h2 n hn
    simp only [Bool.or_eq_true, decide_eq_true_eq, not_or]
    omega
  (repeat (first | refine awp_seq ?_ | refine awp_block ?_ | ((first | refine awp_skip ?_ | refine awp_exit ?_ | refine awp_reg ttok ?_ | (refine awp_draw ttok ?dr_calm ?_; (case dr_calm => decide +kernel)) | refine awp_condM ?_); simp (maxSteps := 4000000) only [↓reduceIte, Nat.reduceLT, Nat.reduceEqDiff, reduceCtorEq, Nat.reduceAdd, Nat.reduceMul, Int.reduceLE, Int.reduceLT, Int.reduceToNat, Nat.reduceLeDiff, Nat.reduceSub, Int.reduceEq, Nat.reduceBEq, List.replicate, List.set, if_false, if_true, ne_eq, false_implies, implies_true, evA, tyA, dfaR, ints_len, h1, e1]; (repeat (with_reducible refine And.intro ?_ ?_; focus ((repeat' with_reducible apply And.intro) <;> (first | omega | with_reducible trivial | with_reducible assumption)))); (with_reducible first | refine awp_id ?_ | refine id_call ?_ | refine id_and ?_ | refine id_ex ?_ | refine id_all ?_ | refine id_nat ?_ | refine id_le ?_))))
  refine callVC_scal fnok31 (c_CtI _ (dfaR L st F N) fnok37 _ false x (by omega) fun n _ => c_May11 L st F N n) rfl ?_
  simp (maxSteps := 4000000) only [↓reduceIte, Nat.reduceLT, Nat.reduceEqDiff, reduceCtorEq, Nat.reduceAdd, Nat.reduceMul, Int.reduceLE, Int.reduceLT, Int.reduceToNat, Nat.reduceLeDiff, Nat.reduceSub, Int.reduceEq, Nat.reduceBEq, List.replicate, List.set, if_false, if_true, ne_eq, false_implies, implies_true, evA, tyA, ha]
  (repeat (with_reducible refine And.intro ?_ ?_; focus ((repeat' with_reducible apply And.intro) <;> (first | omega | with_reducible trivial | with_reducible assumption))))
  (repeat (first | refine awp_seq ?_ | refine awp_block ?_ | ((first | refine awp_skip ?_ | refine awp_exit ?_ | refine awp_reg ttok ?_ | (refine awp_draw ttok ?dr_calm ?_; (case dr_calm => decide +kernel)) | refine awp_condM ?_); simp (maxSteps := 4000000) only [↓reduceIte, Nat.reduceLT, Nat.reduceEqDiff, reduceCtorEq, Nat.reduceAdd, Nat.reduceMul, Int.reduceLE, Int.reduceLT, Int.reduceToNat, Nat.reduceLeDiff, Nat.reduceSub, Int.reduceEq, Nat.reduceBEq, List.replicate, List.set, if_false, if_true, ne_eq, false_implies, implies_true, evA, tyA, ha]; (repeat (with_reducible refine And.intro ?_ ?_; focus ((repeat' with_reducible apply And.intro) <;> (first | omega | with_reducible trivial | with_reducible assumption)))); (with_reducible first | refine awp_id ?_ | refine id_call ?_ | refine id_and ?_ | refine id_ex ?_ | refine id_all ?_ | refine id_nat ?_ | refine id_le ?_))))
  exact awp_ret (ends_plain (.inr rfl) rfl (by simp (maxSteps := 4000000) only [↓reduceIte, Nat.reduceLT, Nat.reduceEqDiff, reduceCtorEq, Nat.reduceAdd, Nat.reduceMul, Int.reduceLE, Int.reduceLT, Int.reduceToNat, Nat.reduceLeDiff, Nat.reduceSub, Int.reduceEq, Nat.reduceBEq, List.replicate, List.set, if_false, if_true, ne_eq, false_implies, implies_true, evA]))

set_option maxRecDepth 20000 in
set_option maxHeartbeats 16000000 in
theorem c_May {L k : Nat} {N : List (List Int)} (h : NOk L k N) (st : Nat) (hst : st < k) (F : List Bool) (hF : F.length = k) (hL : L ≤ 100000) (hk : 1 ≤ k ∧ k ≤ 2000) : Contract Try.prog 20 [dfaD L st F N] (bo true) [] := by
  refine contract_of_awp (rs := [2]) Try.func20 rfl Try.ntmps20 (by simp) rfl fun E => ?_
  have hl := h.len
  have d1 : decide ((L : Int) < 0) = false := by simp
  have d2 : ((k : Int) != (k : Int)) = false := by simp
  have d3 : decide ((k : Int) < 1) = false := by simp; omega
  have d4 : decide ((k : Int) > 2000) = false := by simp; omega
  have d5 : decide ((st : Int) < 0) = false := by simp
  have d6 : decide ((st : Int) ≥ (k : Int)) = false := by simp; omega
  have ha : (N.any fun _ => false) = false := by simp
  (repeat (first | refine awp_seq ?_ | refine awp_block ?_ | ((first | refine awp_skip ?_ | refine awp_exit ?_ | refine awp_reg ttok ?_ | (refine awp_draw ttok ?dr_calm ?_; (case dr_calm => decide +kernel)) | refine awp_condM ?_); simp (maxSteps := 4000000) only [↓reduceIte, Nat.reduceLT, Nat.reduceEqDiff, reduceCtorEq, Nat.reduceAdd, Nat.reduceMul, Int.reduceLE, Int.reduceLT, Int.reduceToNat, Nat.reduceLeDiff, Nat.reduceSub, Int.reduceEq, Nat.reduceBEq, List.replicate, List.set, if_false, if_true, ne_eq, false_implies, implies_true, evA, tyA, dfaD, d1, bos_len, iis_len, hl, hF, d2, d3, d4, d5, d6]; (repeat (with_reducible refine And.intro ?_ ?_; focus ((repeat' with_reducible apply And.intro) <;> (first | omega | with_reducible trivial | with_reducible assumption)))); (with_reducible first | refine awp_id ?_ | refine id_call ?_ | refine id_and ?_ | refine id_ex ?_ | refine id_all ?_ | refine id_nat ?_ | refine id_le ?_))))
  refine callVC_scal fnok35 (c_CtII _ (dfaR L st F N) fnok36 (fun _ => false) false N (by omega) fun x hx => c_May1 h hL st F x hx) rfl ?_
  simp (maxSteps := 4000000) only [↓reduceIte, Nat.reduceLT, Nat.reduceEqDiff, reduceCtorEq, Nat.reduceAdd, Nat.reduceMul, Int.reduceLE, Int.reduceLT, Int.reduceToNat, Nat.reduceLeDiff, Nat.reduceSub, Int.reduceEq, Nat.reduceBEq, List.replicate, List.set, if_false, if_true, ne_eq, false_implies, implies_true, evA, tyA, ha]
  (repeat (with_reducible refine And.intro ?_ ?_; focus ((repeat' with_reducible apply And.intro) <;> (first | omega | with_reducible trivial | with_reducible assumption))))
  (repeat (first | refine awp_seq ?_ | refine awp_block ?_ | ((first | refine awp_skip ?_ | refine awp_exit ?_ | refine awp_reg ttok ?_ | (refine awp_draw ttok ?dr_calm ?_; (case dr_calm => decide +kernel)) | refine awp_condM ?_); simp (maxSteps := 4000000) only [↓reduceIte, Nat.reduceLT, Nat.reduceEqDiff, reduceCtorEq, Nat.reduceAdd, Nat.reduceMul, Int.reduceLE, Int.reduceLT, Int.reduceToNat, Nat.reduceLeDiff, Nat.reduceSub, Int.reduceEq, Nat.reduceBEq, List.replicate, List.set, if_false, if_true, ne_eq, false_implies, implies_true, evA, tyA, ha]; (repeat (with_reducible refine And.intro ?_ ?_; focus ((repeat' with_reducible apply And.intro) <;> (first | omega | with_reducible trivial | with_reducible assumption)))); (with_reducible first | refine awp_id ?_ | refine id_call ?_ | refine id_and ?_ | refine id_ex ?_ | refine id_all ?_ | refine id_nat ?_ | refine id_le ?_))))
  exact awp_ret (ends_plain (.inr rfl) rfl (by simp (maxSteps := 4000000) only [↓reduceIte, Nat.reduceLT, Nat.reduceEqDiff, reduceCtorEq, Nat.reduceAdd, Nat.reduceMul, Int.reduceLE, Int.reduceLT, Int.reduceToNat, Nat.reduceLeDiff, Nat.reduceSub, Int.reduceEq, Nat.reduceBEq, List.replicate, List.set, if_false, if_true, ne_eq, false_implies, implies_true, evA]))

theorem c_CloneBo (full : Bool) (l : List Bool) (hl : l.length ≤ 100000) (hne : l ≠ []) : Contract Try.prog 41 [.sl full (bos l)] (.own 0 0 l.length) [{ sz := 1, rows := bos l }] := by
  refine contract_of_awp (rs := [2]) Try.func41 rfl Try.ntmps41 (by simp) rfl fun E => ?_
  (repeat (first | refine awp_seq ?_ | refine awp_block ?_ | ((first | refine awp_skip ?_ | refine awp_exit ?_ | refine awp_reg ttok ?_ | (refine awp_draw ttok ?dr_calm ?_; (case dr_calm => decide +kernel)) | refine awp_condM ?_); simp (maxSteps := 4000000) only [↓reduceIte, Nat.reduceLT, Nat.reduceEqDiff, reduceCtorEq, Nat.reduceAdd, Nat.reduceMul, Int.reduceLE, Int.reduceLT, Int.reduceToNat, Nat.reduceLeDiff, Nat.reduceSub, Int.reduceEq, Nat.reduceBEq, List.replicate, List.set, if_false, if_true, ne_eq, false_implies, implies_true, evA, tyA, bos_len, bos_row]; (repeat (with_reducible refine And.intro ?_ ?_; focus ((repeat' with_reducible apply And.intro) <;> (first | omega | with_reducible trivial | with_reducible assumption)))); (with_reducible first | refine awp_id ?_ | refine id_call ?_ | refine id_and ?_ | refine id_ex ?_ | refine id_all ?_ | refine id_nat ?_ | refine id_le ?_))))
  intro b hb
  refine awp_cond (t := (b != false)) ?_ (fun h => ?_) (fun h => ?_)
  · simp (maxSteps := 4000000) only [↓reduceIte, Nat.reduceLT, Nat.reduceEqDiff, reduceCtorEq, Nat.reduceAdd, Nat.reduceMul, Int.reduceLE, Int.reduceLT, Int.reduceToNat, Nat.reduceLeDiff, Nat.reduceSub, Int.reduceEq, Nat.reduceBEq, List.replicate, List.set, if_false, if_true, ne_eq, false_implies, implies_true, evA]
  · exfalso
    have := hb (by simpa using h)
    rw [bos_nil] at this
    exact hne this
  · (repeat (first | refine awp_seq ?_ | refine awp_block ?_ | ((first | refine awp_skip ?_ | refine awp_exit ?_ | refine awp_reg ttok ?_ | (refine awp_draw ttok ?dr_calm ?_; (case dr_calm => decide +kernel)) | refine awp_condM ?_); simp (maxSteps := 4000000) only [↓reduceIte, Nat.reduceLT, Nat.reduceEqDiff, reduceCtorEq, Nat.reduceAdd, Nat.reduceMul, Int.reduceLE, Int.reduceLT, Int.reduceToNat, Nat.reduceLeDiff, Nat.reduceSub, Int.reduceEq, Nat.reduceBEq, List.replicate, List.set, if_false, if_true, ne_eq, false_implies, implies_true, evA, tyA, bos_len, bos_row]; (repeat (with_reducible refine And.intro ?_ ?_; focus ((repeat' with_reducible apply And.intro) <;> (first | omega | with_reducible trivial | with_reducible assumption)))); (with_reducible first | refine awp_id ?_ | refine id_call ?_ | refine id_and ?_ | refine id_ex ?_ | refine id_all ?_ | refine id_nat ?_ | refine id_le ?_))))
    exact awp_ret (ends_own (g := 4000) (.inr rfl) (by simp (maxSteps := 4000000) only [↓reduceIte, Nat.reduceLT, Nat.reduceEqDiff, reduceCtorEq, Nat.reduceAdd, Nat.reduceMul, Int.reduceLE, Int.reduceLT, Int.reduceToNat, Nat.reduceLeDiff, Nat.reduceSub, Int.reduceEq, Nat.reduceBEq, List.replicate, List.set, if_false, if_true, ne_eq, false_implies, implies_true, evA, bos_len]) (by simp (maxSteps := 4000000) only [↓reduceIte, Nat.reduceLT, Nat.reduceEqDiff, reduceCtorEq, Nat.reduceAdd, Nat.reduceMul, Int.reduceLE, Int.reduceLT, Int.reduceToNat, Nat.reduceLeDiff, Nat.reduceSub, Int.reduceEq, Nat.reduceBEq, List.replicate, List.set, if_false, if_true, ne_eq, false_implies, implies_true, evA]) rfl)

end Go.Proofs.Ytbhjmioegdgpnaa
