/-
  The contract of snap.Put.
-/
import Derived.Test.YtmfonlkigjpjcaaSn2
import Derived.Test.YtmfonlkigjpjcaaCodec
namespace Go.Proofs.Ytmfonlkigjpjcaa
open Go.Ab
set_option linter.unusedSimpArgs false
set_option linter.unusedVariables false

/-- Numbers, written one behind the other. -/
def cps (l : List Int) : List UInt8 := l.flatMap fun n => codePut n.toNat
theorem cps_snoc (l : List Int) (n : Int) : cps l ++ codePut n.toNat = cps (l ++ [n]) := by simp [cps]
theorem cps_len : ∀ (l : List Int), (∀ n ∈ l, n ≤ 2147483647) → (cps l).length ≤ 5 * l.length
  | [], _ => by simp [cps]
  | n :: l, h => by
    have h1 := cps_len l fun x hx => h x (by simp [hx])
    have h2 : (codePut n.toNat).length ≤ 5 := codePut_len10 4 n.toNat (by have := h n (by simp); omega)
    have : cps (n :: l) = codePut n.toNat ++ cps l := rfl
    rw [this, List.length_append, List.length_cons]; omega
/-- One sending's numbers. -/
def sEnc (s : Int × List Int) (q : Int) : List Int := s.1 :: (s.2.length : Int) :: (s.2 ++ [q])
def sNums (l : List (Int × List Int)) (k : List Int) (i : Nat) : List Int := (List.range i).flatMap fun j => sEnc (l.getD j (0, [])) (k.getD j 0)
theorem sNums_succ (l : List (Int × List Int)) (k : List Int) (i : Nat) : sNums l k (i + 1) = sNums l k i ++ sEnc (l.getD i (0, [])) (k.getD i 0) := by simp [sNums, List.range_succ]
def snapNums (z a b : Int) (l : List (Int × List Int)) (k : List Int) : List Int := [z, a, b, (l.length : Int)] ++ sNums l k l.length

set_option maxHeartbeats 4000000 in
theorem c_sPutNo (z a b : Int) (f g : Bool) (l : List (Int × List Int)) (k : List Int) (h : mayB a b l k = false ∨ z < 0 ∨ 2147483647 < z) : Contract Try.prog 18 [i64 z, .agg [i64 a, i64 b, .sl f (srs l), .sl g (ints k)]] (.sl true []) [] := by
  refine contract_of_awp (rs := [4]) Try.func18 rfl Try.ntmps18 (by simp) rfl fun E => ?_
  have kt : (!true) = false := rfl
  have kf : (!false) = true := rfl
  (repeat (first | refine awp_seq ?_ | refine awp_block ?_ | ((first | refine awp_skip ?_ | refine awp_exit ?_ | refine awp_reg ttok ?_ | (refine awp_draw ttok ?dr_calm ?_; (case dr_calm => decide +kernel)) | refine awp_condM ?_); simp (maxSteps := 4000000) only [↓reduceIte, Nat.reduceLT, Nat.reduceEqDiff, reduceCtorEq, Nat.reduceAdd, Nat.reduceMul, Int.reduceLE, Int.reduceLT, Int.reduceToNat, Nat.reduceLeDiff, Nat.reduceSub, Int.reduceEq, Nat.reduceBEq, List.replicate, List.set, if_false, if_true, ne_eq, false_implies, implies_true, evA, tyA]; (repeat (with_reducible refine And.intro ?_ ?_; focus ((repeat' with_reducible apply And.intro) <;> (first | omega | with_reducible trivial | with_reducible assumption)))); (with_reducible first | refine awp_id ?_ | refine id_call ?_ | refine id_and ?_ | refine id_ex ?_ | refine id_all ?_ | refine id_le ?_))))
  refine callVC_scal fnok29 (c_May a b f g l k) rfl ?_
  cases hm : mayB a b l k
  · simp (maxSteps := 4000000) only [↓reduceIte, Nat.reduceLT, Nat.reduceEqDiff, reduceCtorEq, Nat.reduceAdd, Nat.reduceMul, Int.reduceLE, Int.reduceLT, Int.reduceToNat, Nat.reduceLeDiff, Nat.reduceSub, Int.reduceEq, Nat.reduceBEq, List.replicate, List.set, if_false, if_true, ne_eq, false_implies, implies_true, evA, tyA, hm, kt, kf]
    (repeat (with_reducible refine And.intro ?_ ?_; focus ((repeat' with_reducible apply And.intro) <;> (first | omega | with_reducible trivial | with_reducible assumption))))
    (repeat (first | refine awp_seq ?_ | refine awp_block ?_ | ((first | refine awp_skip ?_ | refine awp_exit ?_ | refine awp_reg ttok ?_ | (refine awp_draw ttok ?dr_calm ?_; (case dr_calm => decide +kernel)) | refine awp_condM ?_); simp (maxSteps := 4000000) only [↓reduceIte, Nat.reduceLT, Nat.reduceEqDiff, reduceCtorEq, Nat.reduceAdd, Nat.reduceMul, Int.reduceLE, Int.reduceLT, Int.reduceToNat, Nat.reduceLeDiff, Nat.reduceSub, Int.reduceEq, Nat.reduceBEq, List.replicate, List.set, if_false, if_true, ne_eq, false_implies, implies_true, evA, tyA, kt, kf]; (repeat (with_reducible refine And.intro ?_ ?_; focus ((repeat' with_reducible apply And.intro) <;> (first | omega | with_reducible trivial | with_reducible assumption)))); (with_reducible first | refine awp_id ?_ | refine id_call ?_ | refine id_and ?_ | refine id_ex ?_ | refine id_all ?_ | refine id_le ?_))))
    exact awp_ret (ends_plain (.inr rfl) rfl (by simp (maxSteps := 4000000) only [↓reduceIte, Nat.reduceLT, Nat.reduceEqDiff, reduceCtorEq, Nat.reduceAdd, Nat.reduceMul, Int.reduceLE, Int.reduceLT, Int.reduceToNat, Nat.reduceLeDiff, Nat.reduceSub, Int.reduceEq, Nat.reduceBEq, List.replicate, List.set, if_false, if_true, ne_eq, false_implies, implies_true, evA]))
  · rw [hm] at h
    have h' : z < 0 ∨ 2147483647 < z := by simpa using h
    rcases h' with h' | h'
    · have k1 : decide (z < 0) = true := by simpa using h'
      simp (maxSteps := 4000000) only [↓reduceIte, Nat.reduceLT, Nat.reduceEqDiff, reduceCtorEq, Nat.reduceAdd, Nat.reduceMul, Int.reduceLE, Int.reduceLT, Int.reduceToNat, Nat.reduceLeDiff, Nat.reduceSub, Int.reduceEq, Nat.reduceBEq, List.replicate, List.set, if_false, if_true, ne_eq, false_implies, implies_true, evA, tyA, hm, kt, kf, k1]
      (repeat (with_reducible refine And.intro ?_ ?_; focus ((repeat' with_reducible apply And.intro) <;> (first | omega | with_reducible trivial | with_reducible assumption))))
      (repeat (first | refine awp_seq ?_ | refine awp_block ?_ | ((first | refine awp_skip ?_ | refine awp_exit ?_ | refine awp_reg ttok ?_ | (refine awp_draw ttok ?dr_calm ?_; (case dr_calm => decide +kernel)) | refine awp_condM ?_); simp (maxSteps := 4000000) only [↓reduceIte, Nat.reduceLT, Nat.reduceEqDiff, reduceCtorEq, Nat.reduceAdd, Nat.reduceMul, Int.reduceLE, Int.reduceLT, Int.reduceToNat, Nat.reduceLeDiff, Nat.reduceSub, Int.reduceEq, Nat.reduceBEq, List.replicate, List.set, if_false, if_true, ne_eq, false_implies, implies_true, evA, tyA, kt, kf, k1]; (repeat (with_reducible refine And.intro ?_ ?_; focus ((repeat' with_reducible apply And.intro) <;> (first | omega | with_reducible trivial | with_reducible assumption)))); (with_reducible first | refine awp_id ?_ | refine id_call ?_ | refine id_and ?_ | refine id_ex ?_ | refine id_all ?_ | refine id_le ?_))))
      exact awp_ret (ends_plain (.inr rfl) rfl (by simp (maxSteps := 4000000) only [↓reduceIte, Nat.reduceLT, Nat.reduceEqDiff, reduceCtorEq, Nat.reduceAdd, Nat.reduceMul, Int.reduceLE, Int.reduceLT, Int.reduceToNat, Nat.reduceLeDiff, Nat.reduceSub, Int.reduceEq, Nat.reduceBEq, List.replicate, List.set, if_false, if_true, ne_eq, false_implies, implies_true, evA]))
    · have k1 : decide (z < 0) = false := by simp; omega
      have k2 : decide (z > 2147483647) = true := by simpa using h'
      simp (maxSteps := 4000000) only [↓reduceIte, Nat.reduceLT, Nat.reduceEqDiff, reduceCtorEq, Nat.reduceAdd, Nat.reduceMul, Int.reduceLE, Int.reduceLT, Int.reduceToNat, Nat.reduceLeDiff, Nat.reduceSub, Int.reduceEq, Nat.reduceBEq, List.replicate, List.set, if_false, if_true, ne_eq, false_implies, implies_true, evA, tyA, hm, kt, kf, k1, k2]
      (repeat (with_reducible refine And.intro ?_ ?_; focus ((repeat' with_reducible apply And.intro) <;> (first | omega | with_reducible trivial | with_reducible assumption))))
      (repeat (first | refine awp_seq ?_ | refine awp_block ?_ | ((first | refine awp_skip ?_ | refine awp_exit ?_ | refine awp_reg ttok ?_ | (refine awp_draw ttok ?dr_calm ?_; (case dr_calm => decide +kernel)) | refine awp_condM ?_); simp (maxSteps := 4000000) only [↓reduceIte, Nat.reduceLT, Nat.reduceEqDiff, reduceCtorEq, Nat.reduceAdd, Nat.reduceMul, Int.reduceLE, Int.reduceLT, Int.reduceToNat, Nat.reduceLeDiff, Nat.reduceSub, Int.reduceEq, Nat.reduceBEq, List.replicate, List.set, if_false, if_true, ne_eq, false_implies, implies_true, evA, tyA, kt, kf, k1, k2]; (repeat (with_reducible refine And.intro ?_ ?_; focus ((repeat' with_reducible apply And.intro) <;> (first | omega | with_reducible trivial | with_reducible assumption)))); (with_reducible first | refine awp_id ?_ | refine id_call ?_ | refine id_and ?_ | refine id_ex ?_ | refine id_all ?_ | refine id_le ?_))))
      exact awp_ret (ends_plain (.inr rfl) rfl (by simp (maxSteps := 4000000) only [↓reduceIte, Nat.reduceLT, Nat.reduceEqDiff, reduceCtorEq, Nat.reduceAdd, Nat.reduceMul, Int.reduceLE, Int.reduceLT, Int.reduceToNat, Nat.reduceLeDiff, Nat.reduceSub, Int.reduceEq, Nat.reduceBEq, List.replicate, List.set, if_false, if_true, ne_eq, false_implies, implies_true, evA]))

theorem mayB_true {a b : Int} {l : List (Int × List Int)} {k : List Int} (h : mayB a b l k = true) : l.length = k.length ∧ l.length ≤ 16 ∧ okI a = true ∧ okI b = true ∧ ∀ j, j < l.length → sOk (l.getD j (0, [])) (k.getD j 0) = true := by
  simp only [mayB, Bool.and_eq_true, decide_eq_true_eq, allS, List.all_eq_true, List.mem_range] at h
  exact ⟨h.1, h.2.1, h.2.2.1, h.2.2.2.1, h.2.2.2.2⟩
theorem sOk_true {s : Int × List Int} {q : Int} (h : sOk s q = true) : 0 ≤ s.1 ∧ s.1 ≤ 2147483647 ∧ 0 ≤ q ∧ q ≤ 2147483647 ∧ s.2.length ≤ 8 ∧ (s.2.length : Int) ≤ s.1 ∧ ∀ x ∈ s.2, 0 ≤ x ∧ x ≤ 2147483647 := by
  simp only [sOk, Bool.and_eq_true, decide_eq_true_eq, Bool.not_eq_true', List.any_eq_false, okI_iff, Bool.not_eq_false] at h
  obtain ⟨h1, h2, h3, h4⟩ := h
  refine ⟨h1.1, h1.2, h2.1, h2.2, ?_, ?_, fun x hx => ?_⟩
  · split at h3 <;> omega
  · split at h3 <;> omega
  · have := h4 x hx
    simpa [okI] using this

end Go.Proofs.Ytmfonlkigjpjcaa
