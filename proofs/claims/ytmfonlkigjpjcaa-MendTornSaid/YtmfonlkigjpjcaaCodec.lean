/-
  Numbers of seven bits a byte: plain functions, and the contracts of package codec.
-/
import Derived.Test.YtmfonlkigjpjcaaCe
import Derived.Test.YtmfonlkigjpjcaaTy
namespace Go.Proofs.Ytmfonlkigjpjcaa
open Go.Ab
set_option linter.unusedSimpArgs false
set_option linter.unusedVariables false

def low7 (u : Nat) : UInt8 := UInt8.ofNat (u % 128 + 128)
def codePut (u : Nat) : List UInt8 := if h : u < 128 then [UInt8.ofNat u] else low7 u :: codePut (u / 128)
termination_by u
decreasing_by omega

theorem codePut_small {u : Nat} (h : u < 128) : codePut u = [UInt8.ofNat u] := by rw [codePut, dif_pos h]
theorem codePut_big {u : Nat} (h : ¬ u < 128) : codePut u = low7 u :: codePut (u / 128) := by rw [codePut, dif_neg h]
theorem codePut_len : ∀ (u : Nat), (codePut u).length ≤ u + 1 := by
  intro u
  induction u using Nat.strongRecOn with
  | _ u ih =>
    by_cases h : u < 128
    · rw [codePut_small h]; simp
    · rw [codePut_big h]
      have := ih (u / 128) (by omega)
      simp; omega
theorem codePut_len10 : ∀ (k u : Nat), u < 128 ^ (k + 1) → (codePut u).length ≤ k + 1
  | 0, u, h => by rw [codePut_small (by simpa using h)]; simp
  | k + 1, u, h => by
    by_cases h1 : u < 128
    · rw [codePut_small h1]; simp
    · rw [codePut_big h1]
      have := codePut_len10 k (u / 128) (by rw [Nat.pow_succ] at h; exact Nat.div_lt_of_lt_mul (by rw [Nat.mul_comm]; exact h))
      simp; omega

theorem and127 (u : Nat) (hu : u < 9223372036854775808) : IntKind.i64.wrap ((BitVec.ofInt IntKind.i64.bits (u : Int) &&& BitVec.ofInt IntKind.i64.bits 127).toNat : Int) = ((u % 128 : Nat) : Int) := by
  have h1 : (BitVec.ofInt IntKind.i64.bits (u : Int) &&& BitVec.ofInt IntKind.i64.bits 127).toNat = u % 128 := by
    rw [BitVec.toNat_and]
    have e1 : (BitVec.ofInt IntKind.i64.bits (u : Int)).toNat = u := by
      rw [BitVec.toNat_ofInt]
      show ((u : Int) % 18446744073709551616).toNat = u
      omega
    have e2 : (BitVec.ofInt IntKind.i64.bits 127).toNat = 127 := rfl
    rw [e1, e2]
    exact Nat.and_two_pow_sub_one_eq_mod u 7
  rw [h1]
  exact i64_in (by omega) (by omega)
theorem u8_or128 (v : Nat) (h : v < 128) : IntKind.u8.wrap ((BitVec.ofInt IntKind.u8.bits (IntKind.u8.wrap (v : Int)) ||| BitVec.ofInt IntKind.u8.bits 128).toNat : Int) = ((UInt8.ofNat (v + 128)).toNat : Int) := by
  have e0 : IntKind.u8.wrap (v : Int) = (v : Int) := by
    simp [IntKind.wrap, IntKind.bits, IntKind.signed]; omega
  rw [e0]
  have h1 : (BitVec.ofInt IntKind.u8.bits (v : Int) ||| BitVec.ofInt IntKind.u8.bits 128).toNat = v + 128 := by
    rw [BitVec.toNat_or]
    have e1 : (BitVec.ofInt IntKind.u8.bits (v : Int)).toNat = v := by
      rw [BitVec.toNat_ofInt]
      show ((v : Int) % 256).toNat = v
      omega
    have e2 : (BitVec.ofInt IntKind.u8.bits 128).toNat = 1 * 2 ^ 7 := rfl
    rw [e1, e2, or_add (by omega)]
  rw [h1]
  have h2 : (UInt8.ofNat (v + 128)).toNat = v + 128 := by simp; omega
  rw [h2]
  simp [IntKind.wrap, IntKind.bits, IntKind.signed]; omega
theorem u8_small (v : Nat) (h : v < 128) : IntKind.u8.wrap (v : Int) = ((UInt8.ofNat v).toNat : Int) := by
  have h2 : (UInt8.ofNat v).toNat = v := by simp; omega
  rw [h2]
  simp [IntKind.wrap, IntKind.bits, IntKind.signed]; omega
theorem shr7 (u : Nat) : (u : Int).fdiv (2 ^ (min 7 IntKind.i64.bits)) = ((u / 128 : Nat) : Int) := by
  have : min 7 IntKind.i64.bits = 7 := rfl
  rw [this, Int.fdiv_eq_ediv_of_nonneg _ (by decide)]
  rfl

set_option maxHeartbeats 4000000 in
theorem c_cputM (l : List UInt8) (n : Int) (hl : l.length ≤ 1000000) (hn : n ≤ 9223372036854775807) : ContractM Try.prog 28 [{ sz := 1, rows := bys l }] [.own 0 0 l.length, i64 n] (.own 1 0 (l ++ codePut n.toNat).length) [none, some { sz := 1, rows := bys (l ++ codePut n.toNat) }] := by
  refine contractM_of_awp (rs := [4]) Try.func28 rfl Try.ntmps28 (by simp) rfl fun E => awp_unpin 0 ?_
  have hmax : (if (0 : Int) > n then (0 : Int) else n) = (n.toNat : Int) := by split <;> omega
  have hu : n.toNat < 9223372036854775808 := by omega
  have hlen := codePut_len10 9 n.toNat (by omega)
  generalize n.toNat = u at hmax hu hlen
  (repeat (first | refine awp_seq ?_ | refine awp_block ?_ | ((first | refine awp_skip ?_ | refine awp_exit ?_ | refine awp_reg ttok ?_ | (refine awp_draw ttok ?dr_calm ?_; (case dr_calm => decide +kernel)) | refine awp_condM ?_); simp (maxSteps := 4000000) only [↓reduceIte, Nat.reduceLT, Nat.reduceEqDiff, reduceCtorEq, Nat.reduceAdd, Nat.reduceMul, Int.reduceLE, Int.reduceLT, Int.reduceToNat, Nat.reduceLeDiff, Nat.reduceSub, Int.reduceEq, Nat.reduceBEq, List.replicate, List.set, if_false, if_true, ne_eq, false_implies, implies_true, evA, tyA, hmax]; (repeat (with_reducible refine And.intro ?_ ?_; focus ((repeat' with_reducible apply And.intro) <;> (first | omega | with_reducible trivial | with_reducible assumption)))); (with_reducible first | refine awp_id ?_ | refine id_call ?_ | refine id_and ?_ | refine id_ex ?_ | refine id_all ?_ | refine id_le ?_))))
  refine awp_loop (X := Nat × List UInt8) (fun x => mkS 24 [(0, .own 0 0 (l ++ x.2).length), (5, i64 x.1)] [(0, { sz := 1, rows := bys (l ++ x.2) })]) (fun x => x.2 ++ codePut x.1 = codePut u ∧ x.1 < 9223372036854775808) (fun x => x.1) (u, []) ⟨by simp, hu⟩ (mkS_le rfl ?_ ?_) ?_
  · simp (maxSteps := 4000000) only [↓reduceIte, Nat.reduceLT, Nat.reduceEqDiff, reduceCtorEq, Nat.reduceAdd, Nat.reduceMul, Int.reduceLE, Int.reduceLT, Int.reduceToNat, Nat.reduceLeDiff, Nat.reduceSub, Int.reduceEq, Nat.reduceBEq, List.replicate, List.set, if_false, if_true, ne_eq, false_implies, implies_true, evA]
  · simp (maxSteps := 4000000) only [↓reduceIte, Nat.reduceLT, Nat.reduceEqDiff, reduceCtorEq, Nat.reduceAdd, Nat.reduceMul, Int.reduceLE, Int.reduceLT, Int.reduceToNat, Nat.reduceLeDiff, Nat.reduceSub, Int.reduceEq, Nat.reduceBEq, List.replicate, List.set, if_false, if_true, ne_eq, false_implies, implies_true, evA]
  · rintro ⟨v, pre⟩ ⟨hinv, hv⟩
    simp only at hinv hv
    have hpl : pre.length + (codePut v).length = (codePut u).length := by rw [← hinv]; simp
    (repeat (first | refine awp_seq ?_ | refine awp_block ?_ | ((first | refine awp_skip ?_ | refine awp_exit ?_ | refine awp_reg ttok ?_ | (refine awp_draw ttok ?dr_calm ?_; (case dr_calm => decide +kernel)) | refine awp_condM ?_); simp (maxSteps := 4000000) only [↓reduceIte, Nat.reduceLT, Nat.reduceEqDiff, reduceCtorEq, Nat.reduceAdd, Nat.reduceMul, Int.reduceLE, Int.reduceLT, Int.reduceToNat, Nat.reduceLeDiff, Nat.reduceSub, Int.reduceEq, Nat.reduceBEq, List.replicate, List.set, if_false, if_true, ne_eq, false_implies, implies_true, evA, tyA]; (repeat (with_reducible refine And.intro ?_ ?_; focus ((repeat' with_reducible apply And.intro) <;> (first | omega | with_reducible trivial | with_reducible assumption)))); (with_reducible first | refine awp_id ?_ | refine id_call ?_ | refine id_and ?_ | refine id_ex ?_ | refine id_all ?_ | refine id_le ?_))))
    refine awp_cond (t := decide ((v : Int) ≥ 128)) (by simp (maxSteps := 4000000) only [↓reduceIte, Nat.reduceLT, Nat.reduceEqDiff, reduceCtorEq, Nat.reduceAdd, Nat.reduceMul, Int.reduceLE, Int.reduceLT, Int.reduceToNat, Nat.reduceLeDiff, Nat.reduceSub, Int.reduceEq, Nat.reduceBEq, List.replicate, List.set, if_false, if_true, ne_eq, false_implies, implies_true, evA]) (fun h => ?_) (fun h => ?_)
    · have hd := h
      simp only [decide_eq_true_eq] at h
      have hv128 : ¬ v < 128 := by omega
      have hrow : [[u8 (UInt8.ofNat (v % 128 + 128))]] = bys [low7 v] := rfl
      have hlt : v % 128 < 128 := Nat.mod_lt _ (by decide)
      have h8 := u8_or128 (v % 128) hlt
      have h127 := and127 v hv
      have h7 := shr7 v
      (repeat (first | refine awp_seq ?_ | refine awp_block ?_ | ((first | refine awp_skip ?_ | refine awp_exit ?_ | refine awp_reg ttok ?_ | (refine awp_draw ttok ?dr_calm ?_; (case dr_calm => decide +kernel)) | refine awp_condM ?_); simp (maxSteps := 4000000) only [↓reduceIte, Nat.reduceLT, Nat.reduceEqDiff, reduceCtorEq, Nat.reduceAdd, Nat.reduceMul, Int.reduceLE, Int.reduceLT, Int.reduceToNat, Nat.reduceLeDiff, Nat.reduceSub, Int.reduceEq, Nat.reduceBEq, List.replicate, List.set, if_false, if_true, ne_eq, false_implies, implies_true, evA, tyA, hd, h127, h8, hrow, h7, List.length_append]; (repeat (with_reducible refine And.intro ?_ ?_; focus ((repeat' with_reducible apply And.intro) <;> (first | omega | with_reducible trivial | with_reducible assumption)))); (with_reducible first | refine awp_id ?_ | refine id_call ?_ | refine id_and ?_ | refine id_ex ?_ | refine id_all ?_ | refine id_le ?_))))
      have htk : List.take (l.length + pre.length) (l ++ pre) = l ++ pre := List.take_of_length_le (by simp)
      refine ⟨(v / 128, pre ++ [low7 v]), ⟨?_, by simp only; omega⟩, by simp only; omega, mkS_le rfl ?_ ?_⟩
      · simp only [List.append_assoc]
        rw [← hinv, codePut_big hv128]; rfl
      · simp (maxSteps := 4000000) only [↓reduceIte, Nat.reduceLT, Nat.reduceEqDiff, reduceCtorEq, Nat.reduceAdd, Nat.reduceMul, Int.reduceLE, Int.reduceLT, Int.reduceToNat, Nat.reduceLeDiff, Nat.reduceSub, Int.reduceEq, Nat.reduceBEq, List.replicate, List.set, if_false, if_true, ne_eq, false_implies, implies_true, evA, List.length_append, List.append_assoc, Nat.add_assoc]
      · simp (maxSteps := 4000000) only [↓reduceIte, Nat.reduceLT, Nat.reduceEqDiff, reduceCtorEq, Nat.reduceAdd, Nat.reduceMul, Int.reduceLE, Int.reduceLT, Int.reduceToNat, Nat.reduceLeDiff, Nat.reduceSub, Int.reduceEq, Nat.reduceBEq, List.replicate, List.set, if_false, if_true, ne_eq, false_implies, implies_true, evA, htk, List.append_assoc]
    · have hd := h
      simp only [decide_eq_false_iff_not] at h
      have hv128 : v < 128 := by omega
      have h8 := u8_small v hv128
      have hrow : [[u8 (UInt8.ofNat v)]] = bys (codePut v) := by rw [codePut_small hv128]; rfl
      have hc1 : (codePut v).length = 1 := by rw [codePut_small hv128]; rfl
      have hct : List.take 1 (codePut v) = codePut v := by rw [codePut_small hv128]; rfl
      have hcn : (codePut v = []) = False := by rw [codePut_small hv128]; simp
      have hend : l ++ (pre ++ codePut v) = l ++ codePut u := by rw [hinv]
      have htk : List.take (l.length + pre.length) (l ++ pre) = l ++ pre := List.take_of_length_le (by simp)
      have hel : l.length + pre.length + 1 = l.length + (codePut u).length := by omega
      (repeat (first | refine awp_seq ?_ | refine awp_block ?_ | ((first | refine awp_skip ?_ | refine awp_exit ?_ | refine awp_reg ttok ?_ | (refine awp_draw ttok ?dr_calm ?_; (case dr_calm => decide +kernel)) | refine awp_condM ?_); simp (maxSteps := 4000000) only [↓reduceIte, Nat.reduceLT, Nat.reduceEqDiff, reduceCtorEq, Nat.reduceAdd, Nat.reduceMul, Int.reduceLE, Int.reduceLT, Int.reduceToNat, Nat.reduceLeDiff, Nat.reduceSub, Int.reduceEq, Nat.reduceBEq, List.replicate, List.set, if_false, if_true, ne_eq, false_implies, implies_true, evA, tyA, hd, h8, hrow, hc1, hct, hcn, List.length_append, htk, List.append_assoc, hend, hel]; (repeat (with_reducible refine And.intro ?_ ?_; focus ((repeat' with_reducible apply And.intro) <;> (first | omega | with_reducible trivial | with_reducible assumption)))); (with_reducible first | refine awp_id ?_ | refine id_call ?_ | refine id_and ?_ | refine id_ex ?_ | refine id_all ?_ | refine id_le ?_))))
      exact awp_ret (endsM [0, 0] (.inr rfl) (by simp (maxSteps := 4000000) only [↓reduceIte, Nat.reduceLT, Nat.reduceEqDiff, reduceCtorEq, Nat.reduceAdd, Nat.reduceMul, Int.reduceLE, Int.reduceLT, Int.reduceToNat, Nat.reduceLeDiff, Nat.reduceSub, Int.reduceEq, Nat.reduceBEq, List.replicate, List.set, if_false, if_true, ne_eq, false_implies, implies_true, evA]) (by simp (maxSteps := 4000000) only [↓reduceIte, Nat.reduceLT, Nat.reduceEqDiff, reduceCtorEq, Nat.reduceAdd, Nat.reduceMul, Int.reduceLE, Int.reduceLT, Int.reduceToNat, Nat.reduceLeDiff, Nat.reduceSub, Int.reduceEq, Nat.reduceBEq, List.replicate, List.set, if_false, if_true, ne_eq, false_implies, implies_true, evA]))

set_option maxHeartbeats 4000000 in
theorem c_cputN (n : Int) (hn : n ≤ 9223372036854775807) : Contract Try.prog 28 [.sl true [], i64 n] (.own 0 0 (codePut n.toNat).length) [{ sz := 1, rows := bys (codePut n.toNat) }] := by
  refine contract_of_awp (rs := [4]) Try.func28 rfl Try.ntmps28 (by simp) rfl fun E => ?_
  refine awp_own_nil 0 9000 1 (by simp (maxSteps := 4000000) only [↓reduceIte, Nat.reduceLT, Nat.reduceEqDiff, reduceCtorEq, Nat.reduceAdd, Nat.reduceMul, Int.reduceLE, Int.reduceLT, Int.reduceToNat, Nat.reduceLeDiff, Nat.reduceSub, Int.reduceEq, Nat.reduceBEq, List.replicate, List.set, if_false, if_true, ne_eq, false_implies, implies_true, evA]) (by decide) ?_
  have hmax : (if (0 : Int) > n then (0 : Int) else n) = (n.toNat : Int) := by split <;> omega
  have hu : n.toNat < 9223372036854775808 := by omega
  have hlen := codePut_len10 9 n.toNat (by omega)
  generalize n.toNat = u at hmax hu hlen
  (repeat (first | refine awp_seq ?_ | refine awp_block ?_ | ((first | refine awp_skip ?_ | refine awp_exit ?_ | refine awp_reg ttok ?_ | (refine awp_draw ttok ?dr_calm ?_; (case dr_calm => decide +kernel)) | refine awp_condM ?_); simp (maxSteps := 4000000) only [↓reduceIte, Nat.reduceLT, Nat.reduceEqDiff, reduceCtorEq, Nat.reduceAdd, Nat.reduceMul, Int.reduceLE, Int.reduceLT, Int.reduceToNat, Nat.reduceLeDiff, Nat.reduceSub, Int.reduceEq, Nat.reduceBEq, List.replicate, List.set, if_false, if_true, ne_eq, false_implies, implies_true, evA, tyA, hmax, St.toOwn]; (repeat (with_reducible refine And.intro ?_ ?_; focus ((repeat' with_reducible apply And.intro) <;> (first | omega | with_reducible trivial | with_reducible assumption)))); (with_reducible first | refine awp_id ?_ | refine id_call ?_ | refine id_and ?_ | refine id_ex ?_ | refine id_all ?_ | refine id_le ?_))))
  refine awp_loop (X := Nat × List UInt8) (fun x => mkS 24 [(0, .own 9000 0 x.2.length), (5, i64 x.1)] [(9000, { sz := 1, rows := bys x.2 })]) (fun x => x.2 ++ codePut x.1 = codePut u ∧ x.1 < 9223372036854775808) (fun x => x.1) (u, []) ⟨by simp, hu⟩ (mkS_le rfl ?_ ?_) ?_
  · simp (maxSteps := 4000000) only [↓reduceIte, Nat.reduceLT, Nat.reduceEqDiff, reduceCtorEq, Nat.reduceAdd, Nat.reduceMul, Int.reduceLE, Int.reduceLT, Int.reduceToNat, Nat.reduceLeDiff, Nat.reduceSub, Int.reduceEq, Nat.reduceBEq, List.replicate, List.set, if_false, if_true, ne_eq, false_implies, implies_true, evA]
    try exact ⟨rfl, rfl⟩
  · simp (maxSteps := 4000000) only [↓reduceIte, Nat.reduceLT, Nat.reduceEqDiff, reduceCtorEq, Nat.reduceAdd, Nat.reduceMul, Int.reduceLE, Int.reduceLT, Int.reduceToNat, Nat.reduceLeDiff, Nat.reduceSub, Int.reduceEq, Nat.reduceBEq, List.replicate, List.set, if_false, if_true, ne_eq, false_implies, implies_true, evA]
    try rfl
  · rintro ⟨v, pre⟩ ⟨hinv, hv⟩
    simp only at hinv hv
    have hpl : pre.length + (codePut v).length = (codePut u).length := by rw [← hinv]; simp
    (repeat (first | refine awp_seq ?_ | refine awp_block ?_ | ((first | refine awp_skip ?_ | refine awp_exit ?_ | refine awp_reg ttok ?_ | (refine awp_draw ttok ?dr_calm ?_; (case dr_calm => decide +kernel)) | refine awp_condM ?_); simp (maxSteps := 4000000) only [↓reduceIte, Nat.reduceLT, Nat.reduceEqDiff, reduceCtorEq, Nat.reduceAdd, Nat.reduceMul, Int.reduceLE, Int.reduceLT, Int.reduceToNat, Nat.reduceLeDiff, Nat.reduceSub, Int.reduceEq, Nat.reduceBEq, List.replicate, List.set, if_false, if_true, ne_eq, false_implies, implies_true, evA, tyA]; (repeat (with_reducible refine And.intro ?_ ?_; focus ((repeat' with_reducible apply And.intro) <;> (first | omega | with_reducible trivial | with_reducible assumption)))); (with_reducible first | refine awp_id ?_ | refine id_call ?_ | refine id_and ?_ | refine id_ex ?_ | refine id_all ?_ | refine id_le ?_))))
    refine awp_cond (t := decide ((v : Int) ≥ 128)) (by simp (maxSteps := 4000000) only [↓reduceIte, Nat.reduceLT, Nat.reduceEqDiff, reduceCtorEq, Nat.reduceAdd, Nat.reduceMul, Int.reduceLE, Int.reduceLT, Int.reduceToNat, Nat.reduceLeDiff, Nat.reduceSub, Int.reduceEq, Nat.reduceBEq, List.replicate, List.set, if_false, if_true, ne_eq, false_implies, implies_true, evA]) (fun h => ?_) (fun h => ?_)
    · have hd := h
      simp only [decide_eq_true_eq] at h
      have hv128 : ¬ v < 128 := by omega
      have hrow : [[u8 (UInt8.ofNat (v % 128 + 128))]] = bys [low7 v] := rfl
      have hlt : v % 128 < 128 := Nat.mod_lt _ (by decide)
      have h8 := u8_or128 (v % 128) hlt
      have h127 := and127 v hv
      have h7 := shr7 v
      (repeat (first | refine awp_seq ?_ | refine awp_block ?_ | ((first | refine awp_skip ?_ | refine awp_exit ?_ | refine awp_reg ttok ?_ | (refine awp_draw ttok ?dr_calm ?_; (case dr_calm => decide +kernel)) | refine awp_condM ?_); simp (maxSteps := 4000000) only [↓reduceIte, Nat.reduceLT, Nat.reduceEqDiff, reduceCtorEq, Nat.reduceAdd, Nat.reduceMul, Int.reduceLE, Int.reduceLT, Int.reduceToNat, Nat.reduceLeDiff, Nat.reduceSub, Int.reduceEq, Nat.reduceBEq, List.replicate, List.set, if_false, if_true, ne_eq, false_implies, implies_true, evA, tyA, hd, h127, h8, hrow, h7, List.length_append]; (repeat (with_reducible refine And.intro ?_ ?_; focus ((repeat' with_reducible apply And.intro) <;> (first | omega | with_reducible trivial | with_reducible assumption)))); (with_reducible first | refine awp_id ?_ | refine id_call ?_ | refine id_and ?_ | refine id_ex ?_ | refine id_all ?_ | refine id_le ?_))))
      have htk : List.take pre.length pre = pre := List.take_of_length_le (by simp)
      refine ⟨(v / 128, pre ++ [low7 v]), ⟨?_, by simp only; omega⟩, by simp only; omega, mkS_le rfl ?_ ?_⟩
      · simp only [List.append_assoc]
        rw [← hinv, codePut_big hv128]; rfl
      · simp (maxSteps := 4000000) only [↓reduceIte, Nat.reduceLT, Nat.reduceEqDiff, reduceCtorEq, Nat.reduceAdd, Nat.reduceMul, Int.reduceLE, Int.reduceLT, Int.reduceToNat, Nat.reduceLeDiff, Nat.reduceSub, Int.reduceEq, Nat.reduceBEq, List.replicate, List.set, if_false, if_true, ne_eq, false_implies, implies_true, evA, List.length_append, List.append_assoc, Nat.add_assoc]
      · simp (maxSteps := 4000000) only [↓reduceIte, Nat.reduceLT, Nat.reduceEqDiff, reduceCtorEq, Nat.reduceAdd, Nat.reduceMul, Int.reduceLE, Int.reduceLT, Int.reduceToNat, Nat.reduceLeDiff, Nat.reduceSub, Int.reduceEq, Nat.reduceBEq, List.replicate, List.set, if_false, if_true, ne_eq, false_implies, implies_true, evA, htk, List.append_assoc]
    · have hd := h
      simp only [decide_eq_false_iff_not] at h
      have hv128 : v < 128 := by omega
      have h8 := u8_small v hv128
      have hrow : [[u8 (UInt8.ofNat v)]] = bys (codePut v) := by rw [codePut_small hv128]; rfl
      have hc1 : (codePut v).length = 1 := by rw [codePut_small hv128]; rfl
      have hct : List.take 1 (codePut v) = codePut v := by rw [codePut_small hv128]; rfl
      have hcn : (codePut v = []) = False := by rw [codePut_small hv128]; simp
      have hend : pre ++ codePut v = codePut u := hinv
      have htk : List.take pre.length pre = pre := List.take_of_length_le (by simp)
      have hel : pre.length + 1 = (codePut u).length := by omega
      (repeat (first | refine awp_seq ?_ | refine awp_block ?_ | ((first | refine awp_skip ?_ | refine awp_exit ?_ | refine awp_reg ttok ?_ | (refine awp_draw ttok ?dr_calm ?_; (case dr_calm => decide +kernel)) | refine awp_condM ?_); simp (maxSteps := 4000000) only [↓reduceIte, Nat.reduceLT, Nat.reduceEqDiff, reduceCtorEq, Nat.reduceAdd, Nat.reduceMul, Int.reduceLE, Int.reduceLT, Int.reduceToNat, Nat.reduceLeDiff, Nat.reduceSub, Int.reduceEq, Nat.reduceBEq, List.replicate, List.set, if_false, if_true, ne_eq, false_implies, implies_true, evA, tyA, hd, h8, hrow, hc1, hct, hcn, List.length_append, htk, List.append_assoc, hend, hel]; (repeat (with_reducible refine And.intro ?_ ?_; focus ((repeat' with_reducible apply And.intro) <;> (first | omega | with_reducible trivial | with_reducible assumption)))); (with_reducible first | refine awp_id ?_ | refine id_call ?_ | refine id_and ?_ | refine id_ex ?_ | refine id_all ?_ | refine id_le ?_))))
      exact awp_ret (ends_own (g := 9000) (.inr rfl) (by simp (maxSteps := 4000000) only [↓reduceIte, Nat.reduceLT, Nat.reduceEqDiff, reduceCtorEq, Nat.reduceAdd, Nat.reduceMul, Int.reduceLE, Int.reduceLT, Int.reduceToNat, Nat.reduceLeDiff, Nat.reduceSub, Int.reduceEq, Nat.reduceBEq, List.replicate, List.set, if_false, if_true, ne_eq, false_implies, implies_true, evA]) (by simp (maxSteps := 4000000) only [↓reduceIte, Nat.reduceLT, Nat.reduceEqDiff, reduceCtorEq, Nat.reduceAdd, Nat.reduceMul, Int.reduceLE, Int.reduceLT, Int.reduceToNat, Nat.reduceLeDiff, Nat.reduceSub, Int.reduceEq, Nat.reduceBEq, List.replicate, List.set, if_false, if_true, ne_eq, false_implies, implies_true, evA]) rfl)

end Go.Proofs.Ytmfonlkigjpjcaa
