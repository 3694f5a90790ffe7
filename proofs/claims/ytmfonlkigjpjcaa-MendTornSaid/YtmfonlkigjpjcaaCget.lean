/-
  Numbers of seven bits a byte, read: plain functions, and the contract of codec.Get.
-/
import Derived.Test.YtmfonlkigjpjcaaCodec
namespace Go.Proofs.Ytmfonlkigjpjcaa
open Go.Ab
set_option linter.unusedSimpArgs false
set_option linter.unusedVariables false

/-- The number that bytes begin with, and how many it has. -/
def cgGo : Nat → List UInt8 → Nat → Nat → Nat × Nat
  | 0, _, _, _ => (0, 0)
  | _ + 1, [], _, _ => (0, 0)
  | f + 1, c :: r, i, n => if 128 ≤ c.toNat then cgGo f r (i + 1) (n + c.toNat % 128 * 128 ^ i) else if (0 < i ∧ c.toNat = 0) ∨ 2147483647 < n + c.toNat % 128 * 128 ^ i then (0, 0) else (n + c.toNat % 128 * 128 ^ i, i + 1)
def codeGet (l : List UInt8) : Nat × Nat := cgGo 5 l 0 0

set_option maxHeartbeats 4000000 in
theorem c_cget (f : Bool) (l : List UInt8) (hl : l.length ≤ 1000000) : Contract Try.prog 48 [.sl f (bys l)] (.tup [i64 (codeGet l).1, i64 (codeGet l).2]) [] := by
  refine contract_of_awp (rs := [2, 3]) Try.func48 rfl Try.ntmps48 (by simp) rfl fun E => ?_
  (repeat (first | refine awp_seq ?_ | refine awp_block ?_ | ((first | refine awp_skip ?_ | refine awp_exit ?_ | refine awp_reg ttok ?_ | (refine awp_draw ttok ?dr_calm ?_; (case dr_calm => decide +kernel)) | refine awp_condM ?_); simp (maxSteps := 4000000) only [↓reduceIte, Nat.reduceLT, Nat.reduceEqDiff, reduceCtorEq, Nat.reduceAdd, Nat.reduceMul, Int.reduceLE, Int.reduceLT, Int.reduceToNat, Nat.reduceLeDiff, Nat.reduceSub, Int.reduceEq, Nat.reduceBEq, List.replicate, List.set, if_false, if_true, ne_eq, false_implies, implies_true, evA, tyA]; (repeat (with_reducible refine And.intro ?_ ?_; focus ((repeat' with_reducible apply And.intro) <;> (first | omega | with_reducible trivial | with_reducible assumption)))); (with_reducible first | refine awp_id ?_ | refine id_call ?_ | refine id_and ?_ | refine id_ex ?_ | refine id_all ?_ | refine id_le ?_))))
  refine awp_loop (X := Nat × Nat) (fun x => mkS 44 [(0, .sl f (bys l)), (4, i64 x.2), (5, i64 x.1)] []) (fun x => x.1 ≤ 5 ∧ x.2 < 2 ^ (7 * x.1) ∧ cgGo (5 - x.1) (l.drop x.1) x.1 x.2 = codeGet l) (fun x => 5 - x.1) (0, 0) ⟨by decide, by decide, rfl⟩ (mkS_le rfl ?_ trivial) ?_
  · simp (maxSteps := 4000000) only [↓reduceIte, Nat.reduceLT, Nat.reduceEqDiff, reduceCtorEq, Nat.reduceAdd, Nat.reduceMul, Int.reduceLE, Int.reduceLT, Int.reduceToNat, Nat.reduceLeDiff, Nat.reduceSub, Int.reduceEq, Nat.reduceBEq, List.replicate, List.set, if_false, if_true, ne_eq, false_implies, implies_true, evA]
    rfl
  · rintro ⟨i, n⟩ ⟨hi, hn, hg⟩
    simp only at hi hn hg
    by_cases hlt : i < l.length
    · by_cases hi5 : i < 5
      · have h1 : decide ((i : Int) < (l.length : Int)) = true := by simpa using hlt
        have h2 : decide ((i : Int) < 5) = true := by simp; omega
        have gi := bys_get hlt
        have hdrop : l.drop i = l.getD i 0 :: l.drop (i + 1) := by
          rw [List.drop_eq_getElem_cons hlt]; simp [List.getD, List.getElem?_eq_getElem hlt]
        rw [show 5 - i = (4 - i) + 1 by omega, hdrop, cgGo] at hg
        generalize hc : l.getD i 0 = c at *
        have hcl : c.toNat < 256 := c.toNat_lt
        have h127 := and127 c.toNat (by omega)
        have hpow : 2 ^ (7 * i) ≤ 2 ^ 28 := Nat.pow_le_pow_right (by decide) (by omega)
        have h128 : 128 ^ i = 2 ^ (7 * i) := by rw [show 128 = 2 ^ 7 from rfl, ← Nat.pow_mul]
        rw [h128] at hg
        have hw7 : IntKind.i64.wrap (7 * (i : Int)) = ((7 * i : Nat) : Int) := by rw [i64_in (by omega) (by omega)]; omega
        have hb : c.toNat % 128 * 2 ^ (7 * i) ≤ 127 * 2 ^ 28 := Nat.mul_le_mul (by omega) hpow
        have hshl : IntKind.i64.wrap (((c.toNat % 128 : Nat) : Int) * 2 ^ (min (7 * i) IntKind.i64.bits)) = ((c.toNat % 128 * 2 ^ (7 * i) : Nat) : Int) := by
          have : min (7 * i) IntKind.i64.bits = 7 * i := by simp [IntKind.bits]; omega
          rw [this]
          have e : ((c.toNat % 128 : Nat) : Int) * 2 ^ (7 * i) = ((c.toNat % 128 * 2 ^ (7 * i) : Nat) : Int) := by simp
          rw [e]; exact i64_in (by omega) (by omega)
        have hor := or_i64 (b := c.toNat % 128) hn (by omega)
        have hwi : IntKind.i64.wrap ((i : Int) + 1) = ((i + 1 : Nat) : Int) := i64_in (by omega) (by omega)
        generalize hm : n + c.toNat % 128 * 2 ^ (7 * i) = m at *
        by_cases hbig : 128 ≤ c.toNat
        · have h3 : decide ((c.toNat : Int) ≥ 128) = true := by simp; omega
          (repeat (first | refine awp_seq ?_ | refine awp_block ?_ | ((first | refine awp_skip ?_ | refine awp_exit ?_ | refine awp_reg ttok ?_ | (refine awp_draw ttok ?dr_calm ?_; (case dr_calm => decide +kernel)) | refine awp_condM ?_); simp (maxSteps := 4000000) only [↓reduceIte, Nat.reduceLT, Nat.reduceEqDiff, reduceCtorEq, Nat.reduceAdd, Nat.reduceMul, Int.reduceLE, Int.reduceLT, Int.reduceToNat, Nat.reduceLeDiff, Nat.reduceSub, Int.reduceEq, Nat.reduceBEq, List.replicate, List.set, if_false, if_true, ne_eq, false_implies, implies_true, evA, tyA, h1, h2, gi, i64_of_u8, h127, hw7, hshl, hor, h3, hwi]; (repeat (with_reducible refine And.intro ?_ ?_; focus ((repeat' with_reducible apply And.intro) <;> (first | omega | with_reducible trivial | with_reducible assumption)))); (with_reducible first | refine awp_id ?_ | refine id_call ?_ | refine id_and ?_ | refine id_ex ?_ | refine id_all ?_ | refine id_le ?_))))
          refine ⟨(i + 1, m), ⟨by simp only; omega, ?_, ?_⟩, by simp only; omega, mkS_le rfl ?_ trivial⟩
          · simp only
            have : 2 ^ (7 * (i + 1)) = 128 * 2 ^ (7 * i) := by rw [Nat.mul_add, Nat.pow_add]; omega
            rw [this]
            have h4 : c.toNat % 128 * 2 ^ (7 * i) ≤ 127 * 2 ^ (7 * i) := Nat.mul_le_mul (by omega) (Nat.le_refl _)
            omega
          · simp only
            rw [if_pos hbig] at hg
            rw [show 5 - (i + 1) = 4 - i by omega]; exact hg
          · simp (maxSteps := 4000000) only [↓reduceIte, Nat.reduceLT, Nat.reduceEqDiff, reduceCtorEq, Nat.reduceAdd, Nat.reduceMul, Int.reduceLE, Int.reduceLT, Int.reduceToNat, Nat.reduceLeDiff, Nat.reduceSub, Int.reduceEq, Nat.reduceBEq, List.replicate, List.set, if_false, if_true, ne_eq, false_implies, implies_true, evA]
        · have h3 : decide ((c.toNat : Int) ≥ 128) = false := by simp; omega
          rw [if_neg hbig] at hg
          have k1 : decide ((i : Int) > 0) = decide (0 < i) := by simp
          have k2 : ((c.toNat : Int) == 0) = decide (c.toNat = 0) := by rw [Bool.eq_iff_iff]; simp
          have k3 : decide ((m : Int) > 2147483647) = decide (2147483647 < m) := by rw [Bool.eq_iff_iff]; simp; omega
          have hdone : ∀ b1 b2 b3 : Bool, decide (0 < i) = b1 → decide (c.toNat = 0) = b2 → decide (2147483647 < m) = b3 → codeGet l = if (b1 && b2) || b3 then (0, 0) else (m, i + 1) := by
            intro b1 b2 b3 e1 e2 e3
            rw [← hg, ← e1, ← e2, ← e3]
            simp
          cases q1 : decide (0 < i) <;> cases q2 : decide (c.toNat = 0) <;> cases q3 : decide (2147483647 < m)
          all_goals
            rw [q1] at k1
            rw [q2] at k2
            rw [q3] at k3
            have hd := hdone _ _ _ q1 q2 q3
            simp only [Bool.and_true, Bool.and_false, Bool.or_true, Bool.or_false, Bool.false_eq_true, if_false, if_true] at hd
            (repeat (first | refine awp_seq ?_ | refine awp_block ?_ | ((first | refine awp_skip ?_ | refine awp_exit ?_ | refine awp_reg ttok ?_ | (refine awp_draw ttok ?dr_calm ?_; (case dr_calm => decide +kernel)) | refine awp_condM ?_); simp (maxSteps := 4000000) only [↓reduceIte, Nat.reduceLT, Nat.reduceEqDiff, reduceCtorEq, Nat.reduceAdd, Nat.reduceMul, Int.reduceLE, Int.reduceLT, Int.reduceToNat, Nat.reduceLeDiff, Nat.reduceSub, Int.reduceEq, Nat.reduceBEq, List.replicate, List.set, if_false, if_true, ne_eq, false_implies, implies_true, evA, tyA, h1, h2, gi, i64_of_u8, h127, hw7, hshl, hor, h3, hwi, k1, k2, k3]; (repeat (with_reducible refine And.intro ?_ ?_; focus ((repeat' with_reducible apply And.intro) <;> (first | omega | with_reducible trivial | with_reducible assumption)))); (with_reducible first | refine awp_id ?_ | refine id_call ?_ | refine id_and ?_ | refine id_ex ?_ | refine id_all ?_ | refine id_le ?_))))
            exact awp_ret (ends_plain (.inr rfl) rfl (by simp (maxSteps := 4000000) only [↓reduceIte, Nat.reduceLT, Nat.reduceEqDiff, reduceCtorEq, Nat.reduceAdd, Nat.reduceMul, Int.reduceLE, Int.reduceLT, Int.reduceToNat, Nat.reduceLeDiff, Nat.reduceSub, Int.reduceEq, Nat.reduceBEq, List.replicate, List.set, if_false, if_true, ne_eq, false_implies, implies_true, evA]; rw [hd] <;> rfl))
      · have hi5' : i = 5 := by omega
        subst hi5'
        have h1 : decide (((5 : Nat) : Int) < (l.length : Int)) = true := decide_eq_true (by omega)
        have h2 : decide (((5 : Nat) : Int) < 5) = false := by decide
        have hd : codeGet l = (0, 0) := by rw [← hg]; rfl
        (repeat (first | refine awp_seq ?_ | refine awp_block ?_ | ((first | refine awp_skip ?_ | refine awp_exit ?_ | refine awp_reg ttok ?_ | (refine awp_draw ttok ?dr_calm ?_; (case dr_calm => decide +kernel)) | refine awp_condM ?_); simp (maxSteps := 4000000) only [↓reduceIte, Nat.reduceLT, Nat.reduceEqDiff, reduceCtorEq, Nat.reduceAdd, Nat.reduceMul, Int.reduceLE, Int.reduceLT, Int.reduceToNat, Nat.reduceLeDiff, Nat.reduceSub, Int.reduceEq, Nat.reduceBEq, List.replicate, List.set, if_false, if_true, ne_eq, false_implies, implies_true, evA, tyA, h1, h2]; (repeat (with_reducible refine And.intro ?_ ?_; focus ((repeat' with_reducible apply And.intro) <;> (first | omega | with_reducible trivial | with_reducible assumption)))); (with_reducible first | refine awp_id ?_ | refine id_call ?_ | refine id_and ?_ | refine id_ex ?_ | refine id_all ?_ | refine id_le ?_))))
        exact awp_ret (ends_plain (.inr rfl) rfl (by simp (maxSteps := 4000000) only [↓reduceIte, Nat.reduceLT, Nat.reduceEqDiff, reduceCtorEq, Nat.reduceAdd, Nat.reduceMul, Int.reduceLE, Int.reduceLT, Int.reduceToNat, Nat.reduceLeDiff, Nat.reduceSub, Int.reduceEq, Nat.reduceBEq, List.replicate, List.set, if_false, if_true, ne_eq, false_implies, implies_true, evA]; rw [hd] <;> rfl))
    · have h1 : decide ((i : Int) < (l.length : Int)) = false := by simp; omega
      have hd : codeGet l = (0, 0) := by
        rw [← hg, List.drop_of_length_le (by omega)]
        cases 5 - i <;> rfl
      (repeat (first | refine awp_seq ?_ | refine awp_block ?_ | ((first | refine awp_skip ?_ | refine awp_exit ?_ | refine awp_reg ttok ?_ | (refine awp_draw ttok ?dr_calm ?_; (case dr_calm => decide +kernel)) | refine awp_condM ?_); simp (maxSteps := 4000000) only [↓reduceIte, Nat.reduceLT, Nat.reduceEqDiff, reduceCtorEq, Nat.reduceAdd, Nat.reduceMul, Int.reduceLE, Int.reduceLT, Int.reduceToNat, Nat.reduceLeDiff, Nat.reduceSub, Int.reduceEq, Nat.reduceBEq, List.replicate, List.set, if_false, if_true, ne_eq, false_implies, implies_true, evA, tyA, h1]; (repeat (with_reducible refine And.intro ?_ ?_; focus ((repeat' with_reducible apply And.intro) <;> (first | omega | with_reducible trivial | with_reducible assumption)))); (with_reducible first | refine awp_id ?_ | refine id_call ?_ | refine id_and ?_ | refine id_ex ?_ | refine id_all ?_ | refine id_le ?_))))
      exact awp_ret (ends_plain (.inr rfl) rfl (by simp (maxSteps := 4000000) only [↓reduceIte, Nat.reduceLT, Nat.reduceEqDiff, reduceCtorEq, Nat.reduceAdd, Nat.reduceMul, Int.reduceLE, Int.reduceLT, Int.reduceToNat, Nat.reduceLeDiff, Nat.reduceSub, Int.reduceEq, Nat.reduceBEq, List.replicate, List.set, if_false, if_true, ne_eq, false_implies, implies_true, evA]; rw [hd] <;> rfl))

end Go.Proofs.Ytmfonlkigjpjcaa
