import Derived.Test.YtcpipfodedfpkaaTy
import Derived.Test.YtcpipfodedfpkaaClo
import Derived.Test.YtcpipfodedfpkaaDt
import Derived.Test.YtcpipfodedfpkaaCl
set_option linter.unusedSimpArgs false
set_option linter.unusedVariables false
namespace Go.Proofs.Ytcpipfodedfpkaa
open Go.Ab
set_option maxHeartbeats 4000000 in
theorem c_IdxMv (g : Nat) (row : List D) (hg : FnOk Try.prog g) (f : Bool) (l : List (Int × Int)) (hl : l.length ≤ 100000) (hp : ∀ x ∈ l, Contract Try.prog g [.agg [i64 x.1, i64 x.2], .ref row 0] (bo false) []) :
    Contract Try.prog 94 [.sl f (mvs l), .fn (.func g) 0 [.ref row 0]] (i64 (-1)) [] := by
  refine contract_of_awp (rs := [4]) Try.func94 rfl Try.ntmps94 (by simp) rfl fun E => ?_
  (repeat (first | refine awp_seq ?_ | refine awp_block ?_ | ((first | refine awp_skip ?_ | refine awp_exit ?_ | refine awp_reg ttok ?_ | (refine awp_draw ttok ?dr_calm ?_; (case dr_calm => decide +kernel)) | refine awp_condM ?_); simp (maxSteps := 4000000) only [↓reduceIte, Nat.reduceLT, Nat.reduceEqDiff, reduceCtorEq, Nat.reduceAdd, Nat.reduceMul, Int.reduceLE, Int.reduceLT, Int.reduceToNat, Nat.reduceLeDiff, Nat.reduceSub, Int.reduceEq, Nat.reduceBEq, List.replicate, List.set, evB, tyA, mvs_len]; (repeat (with_reducible refine And.intro ?_ ?_; exact sdX)); (with_reducible first | refine awp_id ?_ | refine id_call ?_ | refine id_and ?_ | refine id_ex ?_ | refine id_all ?_ | refine id_nat ?_ | refine id_le ?_))))
  refine awp_loop (X := Nat) (fun i => mkS 19 [(0, .sl f (mvs l)), (1, .fn (.func g) 0 [.ref row 0]), (7, i64 l.length), (8, i64 i)] []) (fun i => i ≤ l.length) (fun i => l.length - i) 0 (Nat.zero_le _) (mkS_le rfl ?_ trivial) ?_
  · simp (maxSteps := 4000000) only [↓reduceIte, Nat.reduceLT, Nat.reduceEqDiff, reduceCtorEq, Nat.reduceAdd, Nat.reduceMul, Int.reduceLE, Int.reduceLT, Int.reduceToNat, Nat.reduceLeDiff, Nat.reduceSub, Int.reduceEq, Nat.reduceBEq, List.replicate, List.set, evB]
    try rfl
  · intro i hi
    by_cases hlt : i < l.length
    · have d1 : decide ((i : Int) < (l.length : Int)) = true := by simpa using hlt
      have gi := mvs_get hlt
      have hpx := hp _ (getD_mem hlt (0, 0))
      generalize l.getD i (0, 0) = x at gi hpx
      have hwi : IntKind.i64.wrap ((i : Int) + 1) = ((i + 1 : Nat) : Int) := i64_in (by omega) (by omega)
      (repeat (first | refine awp_seq ?_ | refine awp_block ?_ | ((first | refine awp_skip ?_ | refine awp_exit ?_ | refine awp_reg ttok ?_ | (refine awp_draw ttok ?dr_calm ?_; (case dr_calm => decide +kernel)) | refine awp_condM ?_); simp (maxSteps := 4000000) only [↓reduceIte, Nat.reduceLT, Nat.reduceEqDiff, reduceCtorEq, Nat.reduceAdd, Nat.reduceMul, Int.reduceLE, Int.reduceLT, Int.reduceToNat, Nat.reduceLeDiff, Nat.reduceSub, Int.reduceEq, Nat.reduceBEq, List.replicate, List.set, evB, tyA, d1, gi, mvs_len]; (repeat (with_reducible refine And.intro ?_ ?_; exact sdX)); (with_reducible first | refine awp_id ?_ | refine id_call ?_ | refine id_and ?_ | refine id_ex ?_ | refine id_all ?_ | refine id_nat ?_ | refine id_le ?_))))
      refine callVC_scal hg hpx rfl ?_
      simp (maxSteps := 4000000) only [↓reduceIte, Nat.reduceLT, Nat.reduceEqDiff, reduceCtorEq, Nat.reduceAdd, Nat.reduceMul, Int.reduceLE, Int.reduceLT, Int.reduceToNat, Nat.reduceLeDiff, Nat.reduceSub, Int.reduceEq, Nat.reduceBEq, List.replicate, List.set, evB, tyA]
      (repeat (with_reducible refine And.intro ?_ ?_; exact sdX))
      (repeat (first | refine awp_seq ?_ | refine awp_block ?_ | ((first | refine awp_skip ?_ | refine awp_exit ?_ | refine awp_reg ttok ?_ | (refine awp_draw ttok ?dr_calm ?_; (case dr_calm => decide +kernel)) | refine awp_condM ?_); simp (maxSteps := 4000000) only [↓reduceIte, Nat.reduceLT, Nat.reduceEqDiff, reduceCtorEq, Nat.reduceAdd, Nat.reduceMul, Int.reduceLE, Int.reduceLT, Int.reduceToNat, Nat.reduceLeDiff, Nat.reduceSub, Int.reduceEq, Nat.reduceBEq, List.replicate, List.set, evB, tyA, hwi]; (repeat (with_reducible refine And.intro ?_ ?_; exact sdX)); (with_reducible first | refine awp_id ?_ | refine id_call ?_ | refine id_and ?_ | refine id_ex ?_ | refine id_all ?_ | refine id_nat ?_ | refine id_le ?_))))
      refine ⟨i + 1, by omega, by omega, mkS_le rfl ?_ trivial⟩
      simp (maxSteps := 4000000) only [↓reduceIte, Nat.reduceLT, Nat.reduceEqDiff, reduceCtorEq, Nat.reduceAdd, Nat.reduceMul, Int.reduceLE, Int.reduceLT, Int.reduceToNat, Nat.reduceLeDiff, Nat.reduceSub, Int.reduceEq, Nat.reduceBEq, List.replicate, List.set, evB]
    · have d1 : decide ((i : Int) < (l.length : Int)) = false := by simpa using hlt
      (repeat (first | refine awp_seq ?_ | refine awp_block ?_ | ((first | refine awp_skip ?_ | refine awp_exit ?_ | refine awp_reg ttok ?_ | (refine awp_draw ttok ?dr_calm ?_; (case dr_calm => decide +kernel)) | refine awp_condM ?_); simp (maxSteps := 4000000) only [↓reduceIte, Nat.reduceLT, Nat.reduceEqDiff, reduceCtorEq, Nat.reduceAdd, Nat.reduceMul, Int.reduceLE, Int.reduceLT, Int.reduceToNat, Nat.reduceLeDiff, Nat.reduceSub, Int.reduceEq, Nat.reduceBEq, List.replicate, List.set, evB, tyA, d1]; (repeat (with_reducible refine And.intro ?_ ?_; exact sdX)); (with_reducible first | refine awp_id ?_ | refine id_call ?_ | refine id_and ?_ | refine id_ex ?_ | refine id_all ?_ | refine id_nat ?_ | refine id_le ?_))))
      exact awp_ret (ends_plain (.inr rfl) rfl evX)
theorem c_CtMv (g : Nat) (row : List D) (hg : FnOk Try.prog g) (f : Bool) (l : List (Int × Int)) (hl : l.length ≤ 100000) (hp : ∀ x ∈ l, Contract Try.prog g [.agg [i64 x.1, i64 x.2], .ref row 0] (bo false) []) :
    Contract Try.prog 85 [.sl f (mvs l), .fn (.func g) 0 [.ref row 0]] (bo false) [] := by
  refine contract_of_awp (rs := [4]) Try.func85 rfl Try.ntmps85 (by simp) rfl fun E => ?_
  have e : decide ((-1 : Int) ≥ 0) = false := rfl
  (repeat (first | refine awp_seq ?_ | refine awp_block ?_ | ((first | refine awp_skip ?_ | refine awp_exit ?_ | refine awp_reg ttok ?_ | (refine awp_draw ttok ?dr_calm ?_; (case dr_calm => decide +kernel)) | refine awp_condM ?_); simp (maxSteps := 4000000) only [↓reduceIte, Nat.reduceLT, Nat.reduceEqDiff, reduceCtorEq, Nat.reduceAdd, Nat.reduceMul, Int.reduceLE, Int.reduceLT, Int.reduceToNat, Nat.reduceLeDiff, Nat.reduceSub, Int.reduceEq, Nat.reduceBEq, List.replicate, List.set, evB, tyA]; (repeat (with_reducible refine And.intro ?_ ?_; exact sdX)); (with_reducible first | refine awp_id ?_ | refine id_call ?_ | refine id_and ?_ | refine id_ex ?_ | refine id_all ?_ | refine id_nat ?_ | refine id_le ?_))))
  refine callVC_scal fnok94 (c_IdxMv g row hg f l hl hp) rfl ?_
  simp (maxSteps := 4000000) only [↓reduceIte, Nat.reduceLT, Nat.reduceEqDiff, reduceCtorEq, Nat.reduceAdd, Nat.reduceMul, Int.reduceLE, Int.reduceLT, Int.reduceToNat, Nat.reduceLeDiff, Nat.reduceSub, Int.reduceEq, Nat.reduceBEq, List.replicate, List.set, evB, tyA, e]
  (repeat (with_reducible refine And.intro ?_ ?_; exact sdX))
  (repeat (first | refine awp_seq ?_ | refine awp_block ?_ | ((first | refine awp_skip ?_ | refine awp_exit ?_ | refine awp_reg ttok ?_ | (refine awp_draw ttok ?dr_calm ?_; (case dr_calm => decide +kernel)) | refine awp_condM ?_); simp (maxSteps := 4000000) only [↓reduceIte, Nat.reduceLT, Nat.reduceEqDiff, reduceCtorEq, Nat.reduceAdd, Nat.reduceMul, Int.reduceLE, Int.reduceLT, Int.reduceToNat, Nat.reduceLeDiff, Nat.reduceSub, Int.reduceEq, Nat.reduceBEq, List.replicate, List.set, evB, tyA, e]; (repeat (with_reducible refine And.intro ?_ ?_; exact sdX)); (with_reducible first | refine awp_id ?_ | refine id_call ?_ | refine id_and ?_ | refine id_ex ?_ | refine id_all ?_ | refine id_nat ?_ | refine id_le ?_))))
  exact awp_ret (ends_plain (.inr rfl) rfl evX)
set_option maxHeartbeats 4000000 in
theorem c_IdxMM (g : Nat) (row : List D) (hg : FnOk Try.prog g) (f : Bool) (l : List (List (Int × Int))) (hl : l.length ≤ 100000) (hp : ∀ x ∈ l, Contract Try.prog g [.sl false (mvs x), .ref row 0] (bo false) []) :
    Contract Try.prog 93 [.sl f (mmv l), .fn (.func g) 0 [.ref row 0]] (i64 (-1)) [] := by
  refine contract_of_awp (rs := [4]) Try.func93 rfl Try.ntmps93 (by simp) rfl fun E => ?_
  (repeat (first | refine awp_seq ?_ | refine awp_block ?_ | ((first | refine awp_skip ?_ | refine awp_exit ?_ | refine awp_reg ttok ?_ | (refine awp_draw ttok ?dr_calm ?_; (case dr_calm => decide +kernel)) | refine awp_condM ?_); simp (maxSteps := 4000000) only [↓reduceIte, Nat.reduceLT, Nat.reduceEqDiff, reduceCtorEq, Nat.reduceAdd, Nat.reduceMul, Int.reduceLE, Int.reduceLT, Int.reduceToNat, Nat.reduceLeDiff, Nat.reduceSub, Int.reduceEq, Nat.reduceBEq, List.replicate, List.set, evB, tyA, mmv_len]; (repeat (with_reducible refine And.intro ?_ ?_; exact sdX)); (with_reducible first | refine awp_id ?_ | refine id_call ?_ | refine id_and ?_ | refine id_ex ?_ | refine id_all ?_ | refine id_nat ?_ | refine id_le ?_))))
  refine awp_loop (X := Nat) (fun i => mkS 19 [(0, .sl f (mmv l)), (1, .fn (.func g) 0 [.ref row 0]), (7, i64 l.length), (8, i64 i)] []) (fun i => i ≤ l.length) (fun i => l.length - i) 0 (Nat.zero_le _) (mkS_le rfl ?_ trivial) ?_
  · simp (maxSteps := 4000000) only [↓reduceIte, Nat.reduceLT, Nat.reduceEqDiff, reduceCtorEq, Nat.reduceAdd, Nat.reduceMul, Int.reduceLE, Int.reduceLT, Int.reduceToNat, Nat.reduceLeDiff, Nat.reduceSub, Int.reduceEq, Nat.reduceBEq, List.replicate, List.set, evB]
    try rfl
  · intro i hi
    by_cases hlt : i < l.length
    · have d1 : decide ((i : Int) < (l.length : Int)) = true := by simpa using hlt
      have gi := mmv_get hlt
      have hpx := hp _ (getD_mem hlt [])
      generalize l.getD i [] = x at gi hpx
      have hwi : IntKind.i64.wrap ((i : Int) + 1) = ((i + 1 : Nat) : Int) := i64_in (by omega) (by omega)
      (repeat (first | refine awp_seq ?_ | refine awp_block ?_ | ((first | refine awp_skip ?_ | refine awp_exit ?_ | refine awp_reg ttok ?_ | (refine awp_draw ttok ?dr_calm ?_; (case dr_calm => decide +kernel)) | refine awp_condM ?_); simp (maxSteps := 4000000) only [↓reduceIte, Nat.reduceLT, Nat.reduceEqDiff, reduceCtorEq, Nat.reduceAdd, Nat.reduceMul, Int.reduceLE, Int.reduceLT, Int.reduceToNat, Nat.reduceLeDiff, Nat.reduceSub, Int.reduceEq, Nat.reduceBEq, List.replicate, List.set, evB, tyA, d1, gi, mmv_len]; (repeat (with_reducible refine And.intro ?_ ?_; exact sdX)); (with_reducible first | refine awp_id ?_ | refine id_call ?_ | refine id_and ?_ | refine id_ex ?_ | refine id_all ?_ | refine id_nat ?_ | refine id_le ?_))))
      refine callVC_scal hg hpx rfl ?_
      simp (maxSteps := 4000000) only [↓reduceIte, Nat.reduceLT, Nat.reduceEqDiff, reduceCtorEq, Nat.reduceAdd, Nat.reduceMul, Int.reduceLE, Int.reduceLT, Int.reduceToNat, Nat.reduceLeDiff, Nat.reduceSub, Int.reduceEq, Nat.reduceBEq, List.replicate, List.set, evB, tyA]
      (repeat (with_reducible refine And.intro ?_ ?_; exact sdX))
      (repeat (first | refine awp_seq ?_ | refine awp_block ?_ | ((first | refine awp_skip ?_ | refine awp_exit ?_ | refine awp_reg ttok ?_ | (refine awp_draw ttok ?dr_calm ?_; (case dr_calm => decide +kernel)) | refine awp_condM ?_); simp (maxSteps := 4000000) only [↓reduceIte, Nat.reduceLT, Nat.reduceEqDiff, reduceCtorEq, Nat.reduceAdd, Nat.reduceMul, Int.reduceLE, Int.reduceLT, Int.reduceToNat, Nat.reduceLeDiff, Nat.reduceSub, Int.reduceEq, Nat.reduceBEq, List.replicate, List.set, evB, tyA, hwi]; (repeat (with_reducible refine And.intro ?_ ?_; exact sdX)); (with_reducible first | refine awp_id ?_ | refine id_call ?_ | refine id_and ?_ | refine id_ex ?_ | refine id_all ?_ | refine id_nat ?_ | refine id_le ?_))))
      refine ⟨i + 1, by omega, by omega, mkS_le rfl ?_ trivial⟩
      simp (maxSteps := 4000000) only [↓reduceIte, Nat.reduceLT, Nat.reduceEqDiff, reduceCtorEq, Nat.reduceAdd, Nat.reduceMul, Int.reduceLE, Int.reduceLT, Int.reduceToNat, Nat.reduceLeDiff, Nat.reduceSub, Int.reduceEq, Nat.reduceBEq, List.replicate, List.set, evB]
    · have d1 : decide ((i : Int) < (l.length : Int)) = false := by simpa using hlt
      (repeat (first | refine awp_seq ?_ | refine awp_block ?_ | ((first | refine awp_skip ?_ | refine awp_exit ?_ | refine awp_reg ttok ?_ | (refine awp_draw ttok ?dr_calm ?_; (case dr_calm => decide +kernel)) | refine awp_condM ?_); simp (maxSteps := 4000000) only [↓reduceIte, Nat.reduceLT, Nat.reduceEqDiff, reduceCtorEq, Nat.reduceAdd, Nat.reduceMul, Int.reduceLE, Int.reduceLT, Int.reduceToNat, Nat.reduceLeDiff, Nat.reduceSub, Int.reduceEq, Nat.reduceBEq, List.replicate, List.set, evB, tyA, d1]; (repeat (with_reducible refine And.intro ?_ ?_; exact sdX)); (with_reducible first | refine awp_id ?_ | refine id_call ?_ | refine id_and ?_ | refine id_ex ?_ | refine id_all ?_ | refine id_nat ?_ | refine id_le ?_))))
      exact awp_ret (ends_plain (.inr rfl) rfl evX)
theorem c_CtMM (g : Nat) (row : List D) (hg : FnOk Try.prog g) (f : Bool) (l : List (List (Int × Int))) (hl : l.length ≤ 100000) (hp : ∀ x ∈ l, Contract Try.prog g [.sl false (mvs x), .ref row 0] (bo false) []) :
    Contract Try.prog 83 [.sl f (mmv l), .fn (.func g) 0 [.ref row 0]] (bo false) [] := by
  refine contract_of_awp (rs := [4]) Try.func83 rfl Try.ntmps83 (by simp) rfl fun E => ?_
  have e : decide ((-1 : Int) ≥ 0) = false := rfl
  (repeat (first | refine awp_seq ?_ | refine awp_block ?_ | ((first | refine awp_skip ?_ | refine awp_exit ?_ | refine awp_reg ttok ?_ | (refine awp_draw ttok ?dr_calm ?_; (case dr_calm => decide +kernel)) | refine awp_condM ?_); simp (maxSteps := 4000000) only [↓reduceIte, Nat.reduceLT, Nat.reduceEqDiff, reduceCtorEq, Nat.reduceAdd, Nat.reduceMul, Int.reduceLE, Int.reduceLT, Int.reduceToNat, Nat.reduceLeDiff, Nat.reduceSub, Int.reduceEq, Nat.reduceBEq, List.replicate, List.set, evB, tyA]; (repeat (with_reducible refine And.intro ?_ ?_; exact sdX)); (with_reducible first | refine awp_id ?_ | refine id_call ?_ | refine id_and ?_ | refine id_ex ?_ | refine id_all ?_ | refine id_nat ?_ | refine id_le ?_))))
  refine callVC_scal fnok93 (c_IdxMM g row hg f l hl hp) rfl ?_
  simp (maxSteps := 4000000) only [↓reduceIte, Nat.reduceLT, Nat.reduceEqDiff, reduceCtorEq, Nat.reduceAdd, Nat.reduceMul, Int.reduceLE, Int.reduceLT, Int.reduceToNat, Nat.reduceLeDiff, Nat.reduceSub, Int.reduceEq, Nat.reduceBEq, List.replicate, List.set, evB, tyA, e]
  (repeat (with_reducible refine And.intro ?_ ?_; exact sdX))
  (repeat (first | refine awp_seq ?_ | refine awp_block ?_ | ((first | refine awp_skip ?_ | refine awp_exit ?_ | refine awp_reg ttok ?_ | (refine awp_draw ttok ?dr_calm ?_; (case dr_calm => decide +kernel)) | refine awp_condM ?_); simp (maxSteps := 4000000) only [↓reduceIte, Nat.reduceLT, Nat.reduceEqDiff, reduceCtorEq, Nat.reduceAdd, Nat.reduceMul, Int.reduceLE, Int.reduceLT, Int.reduceToNat, Nat.reduceLeDiff, Nat.reduceSub, Int.reduceEq, Nat.reduceBEq, List.replicate, List.set, evB, tyA, e]; (repeat (with_reducible refine And.intro ?_ ?_; exact sdX)); (with_reducible first | refine awp_id ?_ | refine id_call ?_ | refine id_and ?_ | refine id_ex ?_ | refine id_all ?_ | refine id_nat ?_ | refine id_le ?_))))
  exact awp_ret (ends_plain (.inr rfl) rfl evX)
theorem c_RMay11 {L k : Nat} {M : List (List (Int × Int))} (h : MOk L k M) (st : Nat) (F : List Bool) (a b : Int) (hx : -1 ≤ a ∧ a < (L : Int) ∧ 0 ≤ b ∧ b < (k : Int)) : Contract Try.prog 86 [.agg [i64 a, i64 b], .ref [i64 L, i64 st, .sl false (bos F), .sl false (mmv M)] 0] (bo false) [] := by
  refine contract_of_awp (rs := [3]) Try.func86 rfl Try.ntmps86 (by simp) rfl fun E => ?_
  have hkl := h.len
  have e1 : decide (a < -1) = false := by simp; omega
  have e2 : decide (a ≥ (L : Int)) = false := by simp; omega
  have e3 : decide (b < 0) = false := by simp; omega
  have e4 : decide (b ≥ (k : Int)) = false := by simp; omega
  (repeat (first | refine awp_seq ?_ | refine awp_block ?_ | ((first | refine awp_skip ?_ | refine awp_exit ?_ | refine awp_reg ttok ?_ | (refine awp_draw ttok ?dr_calm ?_; (case dr_calm => decide +kernel)) | refine awp_condM ?_); simp (maxSteps := 4000000) only [↓reduceIte, Nat.reduceLT, Nat.reduceEqDiff, reduceCtorEq, Nat.reduceAdd, Nat.reduceMul, Int.reduceLE, Int.reduceLT, Int.reduceToNat, Nat.reduceLeDiff, Nat.reduceSub, Int.reduceEq, Nat.reduceBEq, List.replicate, List.set, evB, tyA, e1, e2, e3, e4, mmv_len, hkl]; (repeat (with_reducible refine And.intro ?_ ?_; exact sdX)); (with_reducible first | refine awp_id ?_ | refine id_call ?_ | refine id_and ?_ | refine id_ex ?_ | refine id_all ?_ | refine id_nat ?_ | refine id_le ?_))))
  exact awp_ret (ends_plain (.inr rfl) rfl evX)
theorem c_RMay1 {L k : Nat} {M : List (List (Int × Int))} (h : MOk L k M) (hR : ∀ s, (M.getD s []).length ≤ 1000) (st : Nat) (F : List Bool) (x : List (Int × Int)) (hx : x ∈ M) : Contract Try.prog 84 [.sl false (mvs x), .ref [i64 L, i64 st, .sl false (bos F), .sl false (mmv M)] 0] (bo false) [] := by
  refine contract_of_awp (rs := [3]) Try.func84 rfl Try.ntmps84 (by simp) rfl fun E => ?_
  have hxl : x.length ≤ 1000 := by
    obtain ⟨i, hi, e⟩ := List.getElem_of_mem hx
    have := hR i
    rw [List.getD_eq_getElem?_getD, List.getElem?_eq_getElem hi, Option.getD_some, e] at this
    exact this
  have hc := c_CtMv 86 [i64 L, i64 st, .sl false (bos F), .sl false (mmv M)] fnok86 false x (by omega) fun y hy => c_RMay11 h st F y.1 y.2 (h.row x hx y hy)
  (repeat (first | refine awp_seq ?_ | refine awp_block ?_ | ((first | refine awp_skip ?_ | refine awp_exit ?_ | refine awp_reg ttok ?_ | (refine awp_draw ttok ?dr_calm ?_; (case dr_calm => decide +kernel)) | refine awp_condM ?_); simp (maxSteps := 4000000) only [↓reduceIte, Nat.reduceLT, Nat.reduceEqDiff, reduceCtorEq, Nat.reduceAdd, Nat.reduceMul, Int.reduceLE, Int.reduceLT, Int.reduceToNat, Nat.reduceLeDiff, Nat.reduceSub, Int.reduceEq, Nat.reduceBEq, List.replicate, List.set, evB, tyA]; (repeat (with_reducible refine And.intro ?_ ?_; exact sdX)); (with_reducible first | refine awp_id ?_ | refine id_call ?_ | refine id_and ?_ | refine id_ex ?_ | refine id_all ?_ | refine id_nat ?_ | refine id_le ?_))))
  refine callVC_scal fnok85 hc rfl ?_
  simp (maxSteps := 4000000) only [↓reduceIte, Nat.reduceLT, Nat.reduceEqDiff, reduceCtorEq, Nat.reduceAdd, Nat.reduceMul, Int.reduceLE, Int.reduceLT, Int.reduceToNat, Nat.reduceLeDiff, Nat.reduceSub, Int.reduceEq, Nat.reduceBEq, List.replicate, List.set, evB, tyA]
  (repeat (with_reducible refine And.intro ?_ ?_; exact sdX))
  (repeat (first | refine awp_seq ?_ | refine awp_block ?_ | ((first | refine awp_skip ?_ | refine awp_exit ?_ | refine awp_reg ttok ?_ | (refine awp_draw ttok ?dr_calm ?_; (case dr_calm => decide +kernel)) | refine awp_condM ?_); simp (maxSteps := 4000000) only [↓reduceIte, Nat.reduceLT, Nat.reduceEqDiff, reduceCtorEq, Nat.reduceAdd, Nat.reduceMul, Int.reduceLE, Int.reduceLT, Int.reduceToNat, Nat.reduceLeDiff, Nat.reduceSub, Int.reduceEq, Nat.reduceBEq, List.replicate, List.set, evB, tyA]; (repeat (with_reducible refine And.intro ?_ ?_; exact sdX)); (with_reducible first | refine awp_id ?_ | refine id_call ?_ | refine id_and ?_ | refine id_ex ?_ | refine id_all ?_ | refine id_nat ?_ | refine id_le ?_))))
  exact awp_ret (ends_plain (.inr rfl) rfl evX)
set_option maxRecDepth 20000 in
theorem c_RMay {L k : Nat} {M : List (List (Int × Int))} (h : MOk L k M) (hR : ∀ s, (M.getD s []).length ≤ 1000) (hk : 1 ≤ k ∧ k ≤ 2000) (st : Nat) (hst : st < k) (F : List Bool) (hF : F.length = k) : Contract Try.prog 70 [nfaD L st F M] (bo true) [] := by
  refine contract_of_awp (rs := [2]) Try.func70 rfl Try.ntmps70 (by simp) rfl fun E => ?_
  have hkl := h.len
  have hc := c_CtMM 84 [i64 L, i64 st, .sl false (bos F), .sl false (mmv M)] fnok84 false M (by omega) fun x hx => c_RMay1 h hR st F x hx
  have e1 : decide ((L : Int) < 0) = false := by simp
  have e2 : ((k : Int) != (k : Int)) = false := by simp
  have e3 : decide ((k : Int) < 1) = false := by simp; omega
  have e4 : decide ((k : Int) > 2000) = false := by simp; omega
  have e5 : decide ((st : Int) < 0) = false := by simp
  have e6 : decide ((st : Int) ≥ (k : Int)) = false := by simp; omega
  (repeat (first | refine awp_seq ?_ | refine awp_block ?_ | ((first | refine awp_skip ?_ | refine awp_exit ?_ | refine awp_reg ttok ?_ | (refine awp_draw ttok ?dr_calm ?_; (case dr_calm => decide +kernel)) | refine awp_condM ?_); simp (maxSteps := 4000000) only [↓reduceIte, Nat.reduceLT, Nat.reduceEqDiff, reduceCtorEq, Nat.reduceAdd, Nat.reduceMul, Int.reduceLE, Int.reduceLT, Int.reduceToNat, Nat.reduceLeDiff, Nat.reduceSub, Int.reduceEq, Nat.reduceBEq, List.replicate, List.set, evB, tyA, nfaD, e1, e2, e3, e4, e5, e6, bos_len, mmv_len, hkl, hF]; (repeat (with_reducible refine And.intro ?_ ?_; exact sdX)); (with_reducible first | refine awp_id ?_ | refine id_call ?_ | refine id_and ?_ | refine id_ex ?_ | refine id_all ?_ | refine id_nat ?_ | refine id_le ?_))))
  refine callVC_scal fnok83 hc rfl ?_
  simp (maxSteps := 4000000) only [↓reduceIte, Nat.reduceLT, Nat.reduceEqDiff, reduceCtorEq, Nat.reduceAdd, Nat.reduceMul, Int.reduceLE, Int.reduceLT, Int.reduceToNat, Nat.reduceLeDiff, Nat.reduceSub, Int.reduceEq, Nat.reduceBEq, List.replicate, List.set, evB, tyA]
  (repeat (with_reducible refine And.intro ?_ ?_; exact sdX))
  (repeat (first | refine awp_seq ?_ | refine awp_block ?_ | ((first | refine awp_skip ?_ | refine awp_exit ?_ | refine awp_reg ttok ?_ | (refine awp_draw ttok ?dr_calm ?_; (case dr_calm => decide +kernel)) | refine awp_condM ?_); simp (maxSteps := 4000000) only [↓reduceIte, Nat.reduceLT, Nat.reduceEqDiff, reduceCtorEq, Nat.reduceAdd, Nat.reduceMul, Int.reduceLE, Int.reduceLT, Int.reduceToNat, Nat.reduceLeDiff, Nat.reduceSub, Int.reduceEq, Nat.reduceBEq, List.replicate, List.set, evB, tyA]; (repeat (with_reducible refine And.intro ?_ ?_; exact sdX)); (with_reducible first | refine awp_id ?_ | refine id_call ?_ | refine id_and ?_ | refine id_ex ?_ | refine id_all ?_ | refine id_nat ?_ | refine id_le ?_))))
  exact awp_ret (ends_plain (.inr rfl) rfl evX)
set_option maxRecDepth 20000 in
set_option maxHeartbeats 16000000 in
theorem c_DKey (f : Bool) (l : List Int) (hl : l.length ≤ 100000) (hb : ∀ x ∈ l, 0 ≤ x ∧ x < 65535) : Contract Try.prog 72 [.sl f (ints l)] (.v (strK l)) [] := by
  refine contract_of_awp (rs := [2]) Try.func72 rfl Try.ntmps72 (by simp) rfl fun E => ?_
  have r2 : ∀ x y : Int, [[D.v (Value.int IntKind.u8 (IntKind.u8.wrap x))], [D.v (Value.int IntKind.u8 (IntKind.u8.wrap (y.fdiv (2 ^ min 8 IntKind.i64.bits))))]] = bys [kLo x, kHi y] := fun x y => by rw [kLo_val, kHi_val]; rfl
  have hu : IntKind.u64.wrap 8 = 8 := rfl
  ((repeat (first | refine awp_seq ?_ | refine awp_block ?_)); ((first | refine awp_skip ?_ | refine awp_exit ?_ | refine awp_reg ttok ?_ | (refine awp_draw ttok ?dr_calm ?_; (case dr_calm => decide +kernel)) | refine awp_condM ?_); simp (maxSteps := 4000000) only [↓reduceIte, Nat.reduceLT, Nat.reduceEqDiff, reduceCtorEq, Nat.reduceAdd, Nat.reduceMul, Int.reduceLE, Int.reduceLT, Int.reduceToNat, Nat.reduceLeDiff, Nat.reduceSub, Int.reduceEq, Nat.reduceBEq, List.replicate, List.set, evB, tyA]; (repeat (with_reducible refine And.intro ?_ ?_; exact sdX)); (with_reducible first | refine awp_id ?_ | refine id_call ?_ | refine id_and ?_ | refine id_ex ?_ | refine id_all ?_ | refine id_nat ?_ | refine id_le ?_)))
  ((repeat (first | refine awp_seq ?_ | refine awp_block ?_)); ((first | refine awp_skip ?_ | refine awp_exit ?_ | refine awp_reg ttok ?_ | (refine awp_draw ttok ?dr_calm ?_; (case dr_calm => decide +kernel)) | refine awp_condM ?_); simp (maxSteps := 4000000) only [↓reduceIte, Nat.reduceLT, Nat.reduceEqDiff, reduceCtorEq, Nat.reduceAdd, Nat.reduceMul, Int.reduceLE, Int.reduceLT, Int.reduceToNat, Nat.reduceLeDiff, Nat.reduceSub, Int.reduceEq, Nat.reduceBEq, List.replicate, List.set, evB, tyA]; (repeat (with_reducible refine And.intro ?_ ?_; exact sdX)); (with_reducible first | refine awp_id ?_ | refine id_call ?_ | refine id_and ?_ | refine id_ex ?_ | refine id_all ?_ | refine id_nat ?_ | refine id_le ?_)))
  refine awp_own_nil 3 90000 1 evX (by decide) ?_
  (repeat (first | refine awp_seq ?_ | refine awp_block ?_ | ((first | refine awp_skip ?_ | refine awp_exit ?_ | refine awp_reg ttok ?_ | (refine awp_draw ttok ?dr_calm ?_; (case dr_calm => decide +kernel)) | refine awp_condM ?_); simp (maxSteps := 4000000) only [↓reduceIte, Nat.reduceLT, Nat.reduceEqDiff, reduceCtorEq, Nat.reduceAdd, Nat.reduceMul, Int.reduceLE, Int.reduceLT, Int.reduceToNat, Nat.reduceLeDiff, Nat.reduceSub, Int.reduceEq, Nat.reduceBEq, List.replicate, List.set, evB, tyA, St.toOwn]; (repeat (with_reducible refine And.intro ?_ ?_; exact sdX)); (with_reducible first | refine awp_id ?_ | refine id_call ?_ | refine id_and ?_ | refine id_ex ?_ | refine id_all ?_ | refine id_nat ?_ | refine id_le ?_))))
  refine awp_loop (X := Nat) (fun i => mkS 23 [(3, .own 90000 0 (kBy (l.take i)).length), (6, .sl f (ints l)), (7, i64 l.length), (8, i64 i)] [(90000, { sz := 1, rows := bys (kBy (l.take i)) })]) (fun i => i ≤ l.length) (fun i => l.length - i) 0 (Nat.zero_le _) (mkS_le rfl ?_ ?_) ?_
  · simp (maxSteps := 4000000) only [↓reduceIte, Nat.reduceLT, Nat.reduceEqDiff, reduceCtorEq, Nat.reduceAdd, Nat.reduceMul, Int.reduceLE, Int.reduceLT, Int.reduceToNat, Nat.reduceLeDiff, Nat.reduceSub, Int.reduceEq, Nat.reduceBEq, List.replicate, List.set, evB, kBy, List.flatMap_nil]
    try rfl
  · simp (maxSteps := 4000000) only [↓reduceIte, Nat.reduceLT, Nat.reduceEqDiff, reduceCtorEq, Nat.reduceAdd, Nat.reduceMul, Int.reduceLE, Int.reduceLT, Int.reduceToNat, Nat.reduceLeDiff, Nat.reduceSub, Int.reduceEq, Nat.reduceBEq, List.replicate, List.set, evB, kBy, List.flatMap_nil, bys]
    try rfl
  · intro i hi
    have hbl := kBy_len (l.take i)
    rw [List.length_take] at hbl
    by_cases hlt : i < l.length
    · have d1 : decide ((i : Int) < (l.length : Int)) = true := by simpa using hlt
      have hwi : IntKind.i64.wrap ((i : Int) + 1) = ((i + 1 : Nat) : Int) := i64_in (by omega) (by omega)
      have hgw := ints_get hlt
      have hst : kBy (l.take (i + 1)) = kBy (l.take i) ++ [kLo (l.getD i 0), kHi (l.getD i 0)] := by rw [take_snoc hlt 0, kBy_snoc]
      generalize l.getD i 0 = x at *
      generalize kBy (l.take i) = B at *
      have htk : List.take B.length B = B := List.take_of_length_le (Nat.le_refl _)
      (repeat (first | refine awp_seq ?_ | refine awp_block ?_ | ((first | refine awp_skip ?_ | refine awp_exit ?_ | refine awp_reg ttok ?_ | (refine awp_draw ttok ?dr_calm ?_; (case dr_calm => decide +kernel)) | refine awp_condM ?_); simp (maxSteps := 4000000) only [↓reduceIte, Nat.reduceLT, Nat.reduceEqDiff, reduceCtorEq, Nat.reduceAdd, Nat.reduceMul, Int.reduceLE, Int.reduceLT, Int.reduceToNat, Nat.reduceLeDiff, Nat.reduceSub, Int.reduceEq, Nat.reduceBEq, List.replicate, List.set, evB, tyA, d1, hgw, hwi, hu, r2, htk, bys_len, bys_take, bys_app]; (repeat (with_reducible refine And.intro ?_ ?_; exact sdX)); (with_reducible first | refine awp_id ?_ | refine id_call ?_ | refine id_and ?_ | refine id_ex ?_ | refine id_all ?_ | refine id_nat ?_ | refine id_le ?_))))
      refine ⟨i + 1, by omega, by omega, mkS_le rfl ?_ ?_⟩
      · simp (maxSteps := 4000000) only [↓reduceIte, Nat.reduceLT, Nat.reduceEqDiff, reduceCtorEq, Nat.reduceAdd, Nat.reduceMul, Int.reduceLE, Int.reduceLT, Int.reduceToNat, Nat.reduceLeDiff, Nat.reduceSub, Int.reduceEq, Nat.reduceBEq, List.replicate, List.set, evB, hst, List.length_append]
        try rfl
      · simp (maxSteps := 4000000) only [↓reduceIte, Nat.reduceLT, Nat.reduceEqDiff, reduceCtorEq, Nat.reduceAdd, Nat.reduceMul, Int.reduceLE, Int.reduceLT, Int.reduceToNat, Nat.reduceLeDiff, Nat.reduceSub, Int.reduceEq, Nat.reduceBEq, List.replicate, List.set, evB, hst]
    · have d1 : decide ((i : Int) < (l.length : Int)) = false := by simpa using hlt
      have hft : l.take i = l := List.take_of_length_le (by omega)
      rw [hft]
      (repeat (first | refine awp_seq ?_ | refine awp_block ?_ | ((first | refine awp_skip ?_ | refine awp_exit ?_ | refine awp_reg ttok ?_ | (refine awp_draw ttok ?dr_calm ?_; (case dr_calm => decide +kernel)) | refine awp_condM ?_); simp (maxSteps := 4000000) only [↓reduceIte, Nat.reduceLT, Nat.reduceEqDiff, reduceCtorEq, Nat.reduceAdd, Nat.reduceMul, Int.reduceLE, Int.reduceLT, Int.reduceToNat, Nat.reduceLeDiff, Nat.reduceSub, Int.reduceEq, Nat.reduceBEq, List.replicate, List.set, evB, tyA, d1]; (repeat (with_reducible refine And.intro ?_ ?_; exact sdX)); (with_reducible first | refine awp_id ?_ | refine id_call ?_ | refine id_and ?_ | refine id_ex ?_ | refine id_all ?_ | refine id_nat ?_ | refine id_le ?_))))
      refine awp_ret (ends_plain (.inr rfl) rfl ?_)
      simp (maxSteps := 4000000) only [↓reduceIte, Nat.reduceLT, Nat.reduceEqDiff, reduceCtorEq, Nat.reduceAdd, Nat.reduceMul, Int.reduceLE, Int.reduceLT, Int.reduceToNat, Nat.reduceLeDiff, Nat.reduceSub, Int.reduceEq, Nat.reduceBEq, List.replicate, List.set, evB, strK, kStr, List.take_of_length_le (Nat.le_refl _)]
end Go.Proofs.Ytcpipfodedfpkaa
