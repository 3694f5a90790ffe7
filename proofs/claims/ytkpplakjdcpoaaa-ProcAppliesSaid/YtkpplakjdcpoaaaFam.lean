import Derived.Test.YtkpplakjdcpoaaaFin
import Derived.Test.YtkpplakjdcpoaaaTy
set_option linter.unusedSimpArgs false
set_option linter.unusedVariables false
namespace Go.Proofs.Ytkpplakjdcpoaaa
open Go.Ab
theorem and_low (c : Int) (m : Nat) (hm : m ≤ 65535) : ∃ C : Nat, C ≤ m ∧ IntKind.i64.wrap ((BitVec.ofInt IntKind.i64.bits c &&& BitVec.ofInt IntKind.i64.bits (m : Int)).toNat : Int) = (C : Int) := by
  refine ⟨(BitVec.ofInt IntKind.i64.bits c &&& BitVec.ofInt IntKind.i64.bits (m : Int)).toNat, ?_, ?_⟩
  all_goals
    have h1 : (BitVec.ofInt IntKind.i64.bits c &&& BitVec.ofInt IntKind.i64.bits (m : Int)).toNat ≤ m := by
      rw [BitVec.toNat_and]
      refine Nat.le_trans Nat.and_le_right ?_
      simp only [BitVec.toNat_ofInt]
      have : ((m : Int) % ((2 ^ IntKind.i64.bits : Nat) : Int)).toNat = m % 2 ^ IntKind.i64.bits := by
        rw [← Int.natCast_emod]; rfl
      rw [this]
      exact Nat.mod_le _ _
  · exact h1
  · exact i64_in (by omega) (by omega)
set_option maxHeartbeats 1600000 in
theorem c_CloneI (full : Bool) (l : List Int) (hl : l.length * 8 ≤ 140737488355328) : Contract Try.prog 28 [.sl full (ints l)] (.own 0 0 l.length) [{ sz := 1, rows := ints l }] := by
  refine contract_of_awp (rs := [2]) Try.func28 rfl Try.ntmps28 (by simp) rfl fun E => ?_
  (repeat (first | refine awp_seq ?_ | refine awp_block ?_ | ((first | refine awp_skip ?_ | refine awp_exit ?_ | refine awp_reg ttok ?_ | (refine awp_draw ttok ?dr_calm ?_; (case dr_calm => decide +kernel)) | refine awp_condM ?_); simp (maxSteps := 4000000) only [↓reduceIte, Nat.reduceLT, Nat.reduceEqDiff, reduceCtorEq, Nat.reduceAdd, Nat.reduceMul, Int.reduceLE, Int.reduceLT, Int.reduceToNat, Nat.reduceLeDiff, Nat.reduceSub, Int.reduceEq, Nat.reduceBEq, evB, tyA]; (repeat (with_reducible refine And.intro ?_ ?_; exact sdX)); (with_reducible first | refine awp_id ?_ | refine id_call ?_ | refine id_and ?_ | refine id_ex ?_ | refine id_all ?_ | refine id_nat ?_ | refine id_le ?_))))
  intro b hb
  refine awp_cond (t := (b != false)) ?_ (fun h => ?_) (fun h => ?_)
  · exact evX
  · have hl0 : l = [] := by
      have := hb (by simpa using h)
      simpa [ints] using this
    subst hl0
    (repeat (first | refine awp_seq ?_ | refine awp_block ?_ | ((first | refine awp_skip ?_ | refine awp_exit ?_ | refine awp_reg ttok ?_ | (refine awp_draw ttok ?dr_calm ?_; (case dr_calm => decide +kernel)) | refine awp_condM ?_); simp (maxSteps := 4000000) only [↓reduceIte, Nat.reduceLT, Nat.reduceEqDiff, reduceCtorEq, Nat.reduceAdd, Nat.reduceMul, Int.reduceLE, Int.reduceLT, Int.reduceToNat, Nat.reduceLeDiff, Nat.reduceSub, Int.reduceEq, Nat.reduceBEq, evB, tyA]; (repeat (with_reducible refine And.intro ?_ ?_; exact sdX)); (with_reducible first | refine awp_id ?_ | refine id_call ?_ | refine id_and ?_ | refine id_ex ?_ | refine id_all ?_ | refine id_nat ?_ | refine id_le ?_))))
    refine awp_own_nil 2 9000 1 ?_ (by decide) (awp_ret ?_)
    · exact evX
    · exact ends_own (g := 9000) (.inr rfl) (by simp (maxSteps := 4000000) only [↓reduceIte, Nat.reduceLT, Nat.reduceEqDiff, reduceCtorEq, Nat.reduceAdd, Nat.reduceMul, Int.reduceLE, Int.reduceLT, Int.reduceToNat, Nat.reduceLeDiff, Nat.reduceSub, Int.reduceEq, Nat.reduceBEq, evB, St.toOwn]) (by simp (maxSteps := 4000000) only [↓reduceIte, Nat.reduceLT, Nat.reduceEqDiff, reduceCtorEq, Nat.reduceAdd, Nat.reduceMul, Int.reduceLE, Int.reduceLT, Int.reduceToNat, Nat.reduceLeDiff, Nat.reduceSub, Int.reduceEq, Nat.reduceBEq, evB, St.toOwn, ints]) rfl
  · (repeat (first | refine awp_seq ?_ | refine awp_block ?_ | ((first | refine awp_skip ?_ | refine awp_exit ?_ | refine awp_reg ttok ?_ | (refine awp_draw ttok ?dr_calm ?_; (case dr_calm => decide +kernel)) | refine awp_condM ?_); simp (maxSteps := 4000000) only [↓reduceIte, Nat.reduceLT, Nat.reduceEqDiff, reduceCtorEq, Nat.reduceAdd, Nat.reduceMul, Int.reduceLE, Int.reduceLT, Int.reduceToNat, Nat.reduceLeDiff, Nat.reduceSub, Int.reduceEq, Nat.reduceBEq, evB, tyA]; (repeat (with_reducible refine And.intro ?_ ?_; exact sdX)); (with_reducible first | refine awp_id ?_ | refine id_call ?_ | refine id_and ?_ | refine id_ex ?_ | refine id_all ?_ | refine id_nat ?_ | refine id_le ?_))))
    exact awp_ret (ends_own (g := 4000) (.inr rfl) evX evX rfl)
set_option maxHeartbeats 1600000 in
theorem c_Same (f g : Bool) (l m : List Int) (hl : l.length ≤ 9223372036854775807) : Contract Try.prog 11 [.sl f (ints l), .sl g (ints m)] (bo (l == m)) [] := by
  refine contract_of_awp (rs := [4]) Try.func11 rfl Try.ntmps11 (by simp) rfl fun E => ?_
  (repeat (first | refine awp_seq ?_ | refine awp_block ?_ | ((first | refine awp_skip ?_ | refine awp_exit ?_ | refine awp_reg ttok ?_ | (refine awp_draw ttok ?dr_calm ?_; (case dr_calm => decide +kernel)) | refine awp_condM ?_); simp (maxSteps := 4000000) only [↓reduceIte, Nat.reduceLT, Nat.reduceEqDiff, reduceCtorEq, Nat.reduceAdd, Nat.reduceMul, Int.reduceLE, Int.reduceLT, Int.reduceToNat, Nat.reduceLeDiff, Nat.reduceSub, Int.reduceEq, Nat.reduceBEq, evB, tyA]; (repeat (with_reducible refine And.intro ?_ ?_; exact sdX)); (with_reducible first | refine awp_id ?_ | refine id_call ?_ | refine id_and ?_ | refine id_ex ?_ | refine id_all ?_ | refine id_nat ?_ | refine id_le ?_))))
  refine awp_cond (t := ((l.length : Int) != (m.length : Int))) evX (fun h => ?_) (fun h => ?_)
  · (repeat (first | refine awp_seq ?_ | refine awp_block ?_ | ((first | refine awp_skip ?_ | refine awp_exit ?_ | refine awp_reg ttok ?_ | (refine awp_draw ttok ?dr_calm ?_; (case dr_calm => decide +kernel)) | refine awp_condM ?_); simp (maxSteps := 4000000) only [↓reduceIte, Nat.reduceLT, Nat.reduceEqDiff, reduceCtorEq, Nat.reduceAdd, Nat.reduceMul, Int.reduceLE, Int.reduceLT, Int.reduceToNat, Nat.reduceLeDiff, Nat.reduceSub, Int.reduceEq, Nat.reduceBEq, evB, tyA]; (repeat (with_reducible refine And.intro ?_ ?_; exact sdX)); (with_reducible first | refine awp_id ?_ | refine id_call ?_ | refine id_and ?_ | refine id_ex ?_ | refine id_all ?_ | refine id_nat ?_ | refine id_le ?_))))
    have hne : l ≠ m := by rintro rfl; simp at h
    have hv : (l == m) = false := by simpa using hne
    rw [hv]
    exact awp_ret (ends_plain (.inr rfl) rfl evX)
  · have hlm : l.length = m.length := by simp at h; omega
    (repeat (first | refine awp_seq ?_ | refine awp_block ?_ | ((first | refine awp_skip ?_ | refine awp_exit ?_ | refine awp_reg ttok ?_ | (refine awp_draw ttok ?dr_calm ?_; (case dr_calm => decide +kernel)) | refine awp_condM ?_); simp (maxSteps := 4000000) only [↓reduceIte, Nat.reduceLT, Nat.reduceEqDiff, reduceCtorEq, Nat.reduceAdd, Nat.reduceMul, Int.reduceLE, Int.reduceLT, Int.reduceToNat, Nat.reduceLeDiff, Nat.reduceSub, Int.reduceEq, Nat.reduceBEq, evB, tyA]; (repeat (with_reducible refine And.intro ?_ ?_; exact sdX)); (with_reducible first | refine awp_id ?_ | refine id_call ?_ | refine id_and ?_ | refine id_ex ?_ | refine id_all ?_ | refine id_nat ?_ | refine id_le ?_))))
    refine awp_loop (X := Nat) (fun k => mkS 26 [(0, .sl f (ints l)), (1, .sl g (ints m)), (5, i64 k)] []) (fun k => k ≤ l.length ∧ l.take k = m.take k) (fun k => l.length - k) 0 ⟨by omega, by simp⟩ (mkS_le rfl ?_ trivial) ?_
    · simp (maxSteps := 4000000) only [↓reduceIte, Nat.reduceLT, Nat.reduceEqDiff, reduceCtorEq, Nat.reduceAdd, Nat.reduceMul, Int.reduceLE, Int.reduceLT, Int.reduceToNat, Nat.reduceLeDiff, Nat.reduceSub, Int.reduceEq, Nat.reduceBEq, evB]
      rfl
    · intro k ⟨hk, htk⟩
      (repeat (first | refine awp_seq ?_ | refine awp_block ?_ | ((first | refine awp_skip ?_ | refine awp_exit ?_ | refine awp_reg ttok ?_ | (refine awp_draw ttok ?dr_calm ?_; (case dr_calm => decide +kernel)) | refine awp_condM ?_); simp (maxSteps := 4000000) only [↓reduceIte, Nat.reduceLT, Nat.reduceEqDiff, reduceCtorEq, Nat.reduceAdd, Nat.reduceMul, Int.reduceLE, Int.reduceLT, Int.reduceToNat, Nat.reduceLeDiff, Nat.reduceSub, Int.reduceEq, Nat.reduceBEq, evB, tyA]; (repeat (with_reducible refine And.intro ?_ ?_; exact sdX)); (with_reducible first | refine awp_id ?_ | refine id_call ?_ | refine id_and ?_ | refine id_ex ?_ | refine id_all ?_ | refine id_nat ?_ | refine id_le ?_))))
      refine awp_cond (t := decide ((k : Int) < (l.length : Int))) evX (fun h => ?_) (fun h => ?_)
      · simp only [decide_eq_true_eq] at h
        have hk' : k < l.length := by omega
        have g1 := ints_get hk'
        have g2 := ints_get (l := m) (i := k) (by omega)
        have hw : IntKind.i64.wrap ((k : Int) + 1) = ((k + 1 : Nat) : Int) := i64_in (by omega) (by omega)
        (repeat (first | refine awp_seq ?_ | refine awp_block ?_ | ((first | refine awp_skip ?_ | refine awp_exit ?_ | refine awp_reg ttok ?_ | (refine awp_draw ttok ?dr_calm ?_; (case dr_calm => decide +kernel)) | refine awp_condM ?_); simp (maxSteps := 4000000) only [↓reduceIte, Nat.reduceLT, Nat.reduceEqDiff, reduceCtorEq, Nat.reduceAdd, Nat.reduceMul, Int.reduceLE, Int.reduceLT, Int.reduceToNat, Nat.reduceLeDiff, Nat.reduceSub, Int.reduceEq, Nat.reduceBEq, evB, tyA, g1, g2]; (repeat (with_reducible refine And.intro ?_ ?_; exact sdX)); (with_reducible first | refine awp_id ?_ | refine id_call ?_ | refine id_and ?_ | refine id_ex ?_ | refine id_all ?_ | refine id_nat ?_ | refine id_le ?_))))
        refine awp_cond (t := (l.getD k 0 != m.getD k 0)) evX (fun h2 => ?_) (fun h2 => ?_)
        · (repeat (first | refine awp_seq ?_ | refine awp_block ?_ | ((first | refine awp_skip ?_ | refine awp_exit ?_ | refine awp_reg ttok ?_ | (refine awp_draw ttok ?dr_calm ?_; (case dr_calm => decide +kernel)) | refine awp_condM ?_); simp (maxSteps := 4000000) only [↓reduceIte, Nat.reduceLT, Nat.reduceEqDiff, reduceCtorEq, Nat.reduceAdd, Nat.reduceMul, Int.reduceLE, Int.reduceLT, Int.reduceToNat, Nat.reduceLeDiff, Nat.reduceSub, Int.reduceEq, Nat.reduceBEq, evB, tyA]; (repeat (with_reducible refine And.intro ?_ ?_; exact sdX)); (with_reducible first | refine awp_id ?_ | refine id_call ?_ | refine id_and ?_ | refine id_ex ?_ | refine id_all ?_ | refine id_nat ?_ | refine id_le ?_))))
          have hne : l ≠ m := by rintro rfl; simp at h2
          have hv : (l == m) = false := by simpa using hne
          rw [hv]
          exact awp_ret (ends_plain (.inr rfl) rfl evX)
        · (repeat (first | refine awp_seq ?_ | refine awp_block ?_ | ((first | refine awp_skip ?_ | refine awp_exit ?_ | refine awp_reg ttok ?_ | (refine awp_draw ttok ?dr_calm ?_; (case dr_calm => decide +kernel)) | refine awp_condM ?_); simp (maxSteps := 4000000) only [↓reduceIte, Nat.reduceLT, Nat.reduceEqDiff, reduceCtorEq, Nat.reduceAdd, Nat.reduceMul, Int.reduceLE, Int.reduceLT, Int.reduceToNat, Nat.reduceLeDiff, Nat.reduceSub, Int.reduceEq, Nat.reduceBEq, evB, tyA, hw]; (repeat (with_reducible refine And.intro ?_ ?_; exact sdX)); (with_reducible first | refine awp_id ?_ | refine id_call ?_ | refine id_and ?_ | refine id_ex ?_ | refine id_all ?_ | refine id_nat ?_ | refine id_le ?_))))
          refine ⟨k + 1, ⟨by omega, ?_⟩, by omega, mkS_le rfl ?_ trivial⟩
          · have h3 : l.getD k 0 = m.getD k 0 := by simpa using h2
            have e1 : l[k]? = some (l.getD k 0) := by simp [List.getD, List.getElem?_eq_getElem hk']
            have e2 : m[k]? = some (m.getD k 0) := by simp [List.getD, List.getElem?_eq_getElem (show k < m.length by omega)]
            rw [List.take_add_one, List.take_add_one, htk, e1, e2, h3]
          · exact evX
      · simp only [decide_eq_false_iff_not] at h
        have hkl : k = l.length := by omega
        (repeat (first | refine awp_seq ?_ | refine awp_block ?_ | ((first | refine awp_skip ?_ | refine awp_exit ?_ | refine awp_reg ttok ?_ | (refine awp_draw ttok ?dr_calm ?_; (case dr_calm => decide +kernel)) | refine awp_condM ?_); simp (maxSteps := 4000000) only [↓reduceIte, Nat.reduceLT, Nat.reduceEqDiff, reduceCtorEq, Nat.reduceAdd, Nat.reduceMul, Int.reduceLE, Int.reduceLT, Int.reduceToNat, Nat.reduceLeDiff, Nat.reduceSub, Int.reduceEq, Nat.reduceBEq, evB, tyA]; (repeat (with_reducible refine And.intro ?_ ?_; exact sdX)); (with_reducible first | refine awp_id ?_ | refine id_call ?_ | refine id_and ?_ | refine id_ex ?_ | refine id_all ?_ | refine id_nat ?_ | refine id_le ?_))))
        have hv : (l == m) = true := by
          rw [hkl, List.take_of_length_le (by omega), List.take_of_length_le (by omega)] at htk
          simpa using htk
        rw [hv]
        exact awp_ret (ends_plain (.inr rfl) rfl evX)
def srs (l : List (Int × List Int)) : List (List D) := l.map fun s => [i64 s.1, .sl false (ints s.2)]
theorem srs_len (l : List (Int × List Int)) : (srs l).length = l.length := by simp [srs]
theorem srs_get {l : List (Int × List Int)} {i : Nat} (h : i < l.length) : (srs l).getD i [] = [i64 (l.getD i (0, [])).1, .sl false (ints (l.getD i (0, [])).2)] := by
  simp [srs, List.getD, List.getElem?_eq_getElem h]
theorem srs_take (l : List (Int × List Int)) (k : Nat) : (srs l).take k = srs (l.take k) := by simp [srs]
theorem srs_row (l : List (Int × List Int)) : (∀ row ∈ srs l, row.length = 2) = True := by
  simp only [srs, List.mem_map, eq_iff_iff, iff_true]
  rintro row ⟨x, _, rfl⟩; rfl
theorem take_eq_step {α : Type} [DecidableEq α] {l m : List α} {k : Nat} (d : α) (hk : k < l.length) (hlm : l.length = m.length) (ht : l.take k = m.take k) (h : l.getD k d = m.getD k d) : l.take (k + 1) = m.take (k + 1) := by
  have e1 : l[k]? = some (l.getD k d) := by simp [List.getD, List.getElem?_eq_getElem hk]
  have e2 : m[k]? = some (m.getD k d) := by simp [List.getD, List.getElem?_eq_getElem (show k < m.length by omega)]
  rw [List.take_add_one, List.take_add_one, ht, e1, e2, h]
theorem take_eq_all {α : Type} [BEq α] [LawfulBEq α] {l m : List α} (hlm : l.length = m.length) (ht : l.take l.length = m.take l.length) : (l == m) = true := by
  rw [List.take_of_length_le (by omega), List.take_of_length_le (by omega)] at ht
  simpa using ht
theorem ne_of_getD {α : Type} [BEq α] [LawfulBEq α] {l m : List α} {k : Nat} (d : α) (h : l.getD k d ≠ m.getD k d) : (l == m) = false := by
  rw [beq_eq_false_iff_ne]; rintro rfl; exact h rfl
theorem srs_ex (l : List (Int × List Int)) : (l = [] ∨ ∃ row, row ∈ srs l ∧ row.length = 2) = True := by
  cases l with
  | nil => simp
  | cons a m => simp [srs]
theorem srs_nil (l : List (Int × List Int)) : (srs l = []) = (l = []) := by simp [srs]
set_option maxHeartbeats 1600000 in
theorem c_CloneS (full : Bool) (l : List (Int × List Int)) (hl : l.length ≤ 1000000) : Contract Try.prog 27 [.sl full (srs l)] (.own 0 0 l.length) [{ sz := 2, rows := srs l }] := by
  refine contract_of_awp (rs := [2]) Try.func27 rfl Try.ntmps27 (by simp) rfl fun E => ?_
  (repeat (first | refine awp_seq ?_ | refine awp_block ?_ | ((first | refine awp_skip ?_ | refine awp_exit ?_ | refine awp_reg ttok ?_ | (refine awp_draw ttok ?dr_calm ?_; (case dr_calm => decide +kernel)) | refine awp_condM ?_); simp (maxSteps := 4000000) only [↓reduceIte, Nat.reduceLT, Nat.reduceEqDiff, reduceCtorEq, Nat.reduceAdd, Nat.reduceMul, Int.reduceLE, Int.reduceLT, Int.reduceToNat, Nat.reduceLeDiff, Nat.reduceSub, Int.reduceEq, Nat.reduceBEq, evB, tyA]; (repeat (with_reducible refine And.intro ?_ ?_; exact sdX)); (with_reducible first | refine awp_id ?_ | refine id_call ?_ | refine id_and ?_ | refine id_ex ?_ | refine id_all ?_ | refine id_nat ?_ | refine id_le ?_))))
  intro b hb
  refine awp_cond (t := (b != false)) ?_ (fun h => ?_) (fun h => ?_)
  · exact evX
  · have hl0 : l = [] := by
      have := hb (by simpa using h)
      simpa [srs] using this
    subst hl0
    (repeat (first | refine awp_seq ?_ | refine awp_block ?_ | ((first | refine awp_skip ?_ | refine awp_exit ?_ | refine awp_reg ttok ?_ | (refine awp_draw ttok ?dr_calm ?_; (case dr_calm => decide +kernel)) | refine awp_condM ?_); simp (maxSteps := 4000000) only [↓reduceIte, Nat.reduceLT, Nat.reduceEqDiff, reduceCtorEq, Nat.reduceAdd, Nat.reduceMul, Int.reduceLE, Int.reduceLT, Int.reduceToNat, Nat.reduceLeDiff, Nat.reduceSub, Int.reduceEq, Nat.reduceBEq, evB, tyA]; (repeat (with_reducible refine And.intro ?_ ?_; exact sdX)); (with_reducible first | refine awp_id ?_ | refine id_call ?_ | refine id_and ?_ | refine id_ex ?_ | refine id_all ?_ | refine id_nat ?_ | refine id_le ?_))))
    refine awp_own_nil 2 9000 2 ?_ (by decide) (awp_ret ?_)
    · exact evX
    · exact ends_own (g := 9000) (.inr rfl) (by simp (maxSteps := 4000000) only [↓reduceIte, Nat.reduceLT, Nat.reduceEqDiff, reduceCtorEq, Nat.reduceAdd, Nat.reduceMul, Int.reduceLE, Int.reduceLT, Int.reduceToNat, Nat.reduceLeDiff, Nat.reduceSub, Int.reduceEq, Nat.reduceBEq, evB, St.toOwn]) (by simp (maxSteps := 4000000) only [↓reduceIte, Nat.reduceLT, Nat.reduceEqDiff, reduceCtorEq, Nat.reduceAdd, Nat.reduceMul, Int.reduceLE, Int.reduceLT, Int.reduceToNat, Nat.reduceLeDiff, Nat.reduceSub, Int.reduceEq, Nat.reduceBEq, evB, St.toOwn, srs]) rfl
  · (repeat (first | refine awp_seq ?_ | refine awp_block ?_ | ((first | refine awp_skip ?_ | refine awp_exit ?_ | refine awp_reg ttok ?_ | (refine awp_draw ttok ?dr_calm ?_; (case dr_calm => decide +kernel)) | refine awp_condM ?_); simp (maxSteps := 4000000) only [↓reduceIte, Nat.reduceLT, Nat.reduceEqDiff, reduceCtorEq, Nat.reduceAdd, Nat.reduceMul, Int.reduceLE, Int.reduceLT, Int.reduceToNat, Nat.reduceLeDiff, Nat.reduceSub, Int.reduceEq, Nat.reduceBEq, evB, tyA, srs_len, srs_ex, srs_nil, srs_row]; (repeat (with_reducible refine And.intro ?_ ?_; exact sdX)); (with_reducible first | refine awp_id ?_ | refine id_call ?_ | refine id_and ?_ | refine id_ex ?_ | refine id_all ?_ | refine id_nat ?_ | refine id_le ?_))))
    exact awp_ret (ends_own (g := 4000) (.inr rfl) evX evX rfl)
def sameI (a b : Int) (l : List (Int × List Int)) (k : List Int) (a' b' : Int) (l' : List (Int × List Int)) (k' : List Int) : Bool := a == a' && (b == b' && (k == k' && l == l'))
set_option maxHeartbeats 8000000 in
theorem c_rSame (f g f' g' : Bool) (a b : Int) (l : List (Int × List Int)) (k : List Int) (a' b' : Int) (l' : List (Int × List Int)) (k' : List Int) (hl : l.length ≤ 100000) (hk : k.length ≤ 100000) (hx : ∀ x ∈ l, x.2.length ≤ 1000000) :
    Contract Try.prog 10 [.agg [i64 a, i64 b, .sl f (srs l), .sl g (ints k)], .agg [i64 a', i64 b', .sl f' (srs l'), .sl g' (ints k')]] (bo (sameI a b l k a' b' l' k')) [] := by
  refine contract_of_awp (rs := [4]) Try.func10 rfl Try.ntmps10 (by simp) rfl fun E => ?_
  have kt : (!true) = false := rfl
  have kf : (!false) = true := rfl
  cases h1 : a != a'
  · have h1' : (a == a') = true := by simpa using h1
    cases h2 : b != b'
    · have h2' : (b == b') = true := by simpa using h2
      (repeat (first | refine awp_seq ?_ | refine awp_block ?_ | ((first | refine awp_skip ?_ | refine awp_exit ?_ | refine awp_reg ttok ?_ | (refine awp_draw ttok ?dr_calm ?_; (case dr_calm => decide +kernel)) | refine awp_condM ?_); simp (maxSteps := 4000000) only [↓reduceIte, Nat.reduceLT, Nat.reduceEqDiff, reduceCtorEq, Nat.reduceAdd, Nat.reduceMul, Int.reduceLE, Int.reduceLT, Int.reduceToNat, Nat.reduceLeDiff, Nat.reduceSub, Int.reduceEq, Nat.reduceBEq, evB, tyA, h1, h2]; (repeat (with_reducible refine And.intro ?_ ?_; exact sdX)); (with_reducible first | refine awp_id ?_ | refine id_call ?_ | refine id_and ?_ | refine id_ex ?_ | refine id_all ?_ | refine id_nat ?_ | refine id_le ?_))))
      refine callVC_scal fnok11 (c_Same g g' k k' (by omega)) rfl ?_
      cases h3 : k == k'
      · have hv : sameI a b l k a' b' l' k' = false := by simp only [sameI, h3, Bool.false_and, Bool.and_false]
        simp (maxSteps := 4000000) only [↓reduceIte, Nat.reduceLT, Nat.reduceEqDiff, reduceCtorEq, Nat.reduceAdd, Nat.reduceMul, Int.reduceLE, Int.reduceLT, Int.reduceToNat, Nat.reduceLeDiff, Nat.reduceSub, Int.reduceEq, Nat.reduceBEq, evB, tyA, h3, kf]
        (repeat (with_reducible refine And.intro ?_ ?_; exact sdX))
        (repeat (first | refine awp_seq ?_ | refine awp_block ?_ | ((first | refine awp_skip ?_ | refine awp_exit ?_ | refine awp_reg ttok ?_ | (refine awp_draw ttok ?dr_calm ?_; (case dr_calm => decide +kernel)) | refine awp_condM ?_); simp (maxSteps := 4000000) only [↓reduceIte, Nat.reduceLT, Nat.reduceEqDiff, reduceCtorEq, Nat.reduceAdd, Nat.reduceMul, Int.reduceLE, Int.reduceLT, Int.reduceToNat, Nat.reduceLeDiff, Nat.reduceSub, Int.reduceEq, Nat.reduceBEq, evB, tyA, kf]; (repeat (with_reducible refine And.intro ?_ ?_; exact sdX)); (with_reducible first | refine awp_id ?_ | refine id_call ?_ | refine id_and ?_ | refine id_ex ?_ | refine id_all ?_ | refine id_nat ?_ | refine id_le ?_))))
        exact awp_ret (ends_plain (.inr rfl) rfl (by simp (maxSteps := 4000000) only [↓reduceIte, Nat.reduceLT, Nat.reduceEqDiff, reduceCtorEq, Nat.reduceAdd, Nat.reduceMul, Int.reduceLE, Int.reduceLT, Int.reduceToNat, Nat.reduceLeDiff, Nat.reduceSub, Int.reduceEq, Nat.reduceBEq, evB, hv]))
      · have hv : sameI a b l k a' b' l' k' = (l == l') := by simp only [sameI, h1', h2', h3, Bool.true_and]
        by_cases hlm : l.length = l'.length
        · have k1 : ((l'.length : Int) != (l'.length : Int)) = false := bne_self_eq_false _
          simp (maxSteps := 4000000) only [↓reduceIte, Nat.reduceLT, Nat.reduceEqDiff, reduceCtorEq, Nat.reduceAdd, Nat.reduceMul, Int.reduceLE, Int.reduceLT, Int.reduceToNat, Nat.reduceLeDiff, Nat.reduceSub, Int.reduceEq, Nat.reduceBEq, evB, tyA, h3, kt, srs_len, hlm, k1]
          (repeat (with_reducible refine And.intro ?_ ?_; exact sdX))
          (repeat (first | refine awp_seq ?_ | refine awp_block ?_ | ((first | refine awp_skip ?_ | refine awp_exit ?_ | refine awp_reg ttok ?_ | (refine awp_draw ttok ?dr_calm ?_; (case dr_calm => decide +kernel)) | refine awp_condM ?_); simp (maxSteps := 4000000) only [↓reduceIte, Nat.reduceLT, Nat.reduceEqDiff, reduceCtorEq, Nat.reduceAdd, Nat.reduceMul, Int.reduceLE, Int.reduceLT, Int.reduceToNat, Nat.reduceLeDiff, Nat.reduceSub, Int.reduceEq, Nat.reduceBEq, evB, tyA, kt, srs_len]; (repeat (with_reducible refine And.intro ?_ ?_; exact sdX)); (with_reducible first | refine awp_id ?_ | refine id_call ?_ | refine id_and ?_ | refine id_ex ?_ | refine id_all ?_ | refine id_nat ?_ | refine id_le ?_))))
          refine awp_loop (X := Nat) (fun j => mkS 71 [(2, .ptr 1000 0 0), (3, .ptr 1001 0 0), (5, i64 j)] [(1000, { sz := 4, rows := [[i64 a, i64 b, .sl f (srs l), .sl g (ints k)]], flat := false }), (1001, { sz := 4, rows := [[i64 a', i64 b', .sl f' (srs l'), .sl g' (ints k')]], flat := false })]) (fun j => j ≤ l.length ∧ l.take j = l'.take j) (fun j => l.length - j) 0 ⟨by omega, by simp⟩ (mkS_le rfl ?_ ?_) ?_
          · simp (maxSteps := 4000000) only [↓reduceIte, Nat.reduceLT, Nat.reduceEqDiff, reduceCtorEq, Nat.reduceAdd, Nat.reduceMul, Int.reduceLE, Int.reduceLT, Int.reduceToNat, Nat.reduceLeDiff, Nat.reduceSub, Int.reduceEq, Nat.reduceBEq, evB]
            try rfl
          · simp (maxSteps := 4000000) only [↓reduceIte, Nat.reduceLT, Nat.reduceEqDiff, reduceCtorEq, Nat.reduceAdd, Nat.reduceMul, Int.reduceLE, Int.reduceLT, Int.reduceToNat, Nat.reduceLeDiff, Nat.reduceSub, Int.reduceEq, Nat.reduceBEq, evB]
            try rfl
          · rintro j ⟨hj, htk⟩
            by_cases hlt : j < l.length
            · have d1 : decide ((j : Int) < (l.length : Int)) = true := by simp; omega
              have g1 := srs_get hlt
              have g2 := srs_get (l := l') (i := j) (by omega)
              have hw : IntKind.i64.wrap ((j : Int) + 1) = ((j + 1 : Nat) : Int) := i64_in (by omega) (by omega)
              have hx1 : (l.getD j (0, [])).2.length ≤ 1000000 := hx _ (by simp [List.getD, List.getElem?_eq_getElem hlt])
              have hst := fun e => take_eq_step (l := l) (m := l') (0, []) hlt hlm htk e
              have hne := @ne_of_getD _ _ _ l l' j (0, [])
              generalize l.getD j (0, []) = x at *
              generalize l'.getD j (0, []) = y at *
              have hlj : j < l'.length := by omega
              cases h4 : x.1 != y.1
              · have h4' : x.1 = y.1 := by simpa using h4
                (repeat (first | refine awp_seq ?_ | refine awp_block ?_ | ((first | refine awp_skip ?_ | refine awp_exit ?_ | refine awp_reg ttok ?_ | (refine awp_draw ttok ?dr_calm ?_; (case dr_calm => decide +kernel)) | refine awp_condM ?_); simp (maxSteps := 4000000) only [↓reduceIte, Nat.reduceLT, Nat.reduceEqDiff, reduceCtorEq, Nat.reduceAdd, Nat.reduceMul, Int.reduceLE, Int.reduceLT, Int.reduceToNat, Nat.reduceLeDiff, Nat.reduceSub, Int.reduceEq, Nat.reduceBEq, evB, tyA, srs_len, d1, g1, g2, h4]; (repeat (with_reducible refine And.intro ?_ ?_; exact sdX)); (with_reducible first | refine awp_id ?_ | refine id_call ?_ | refine id_and ?_ | refine id_ex ?_ | refine id_all ?_ | refine id_nat ?_ | refine id_le ?_))))
                refine awp_drawG ttok ((0, none) :: (1, none) :: (2, none) :: (3, none) :: (4, none) :: (5, none) :: (6, none) :: (7, none) :: (8, none) :: (9, none) :: (10, none) :: (11, none) :: (12, none) :: (13, none) :: (14, none) :: (15, none) :: (16, none) :: (17, none) :: (18, none) :: (19, none) :: (20, none) :: (21, none) :: (22, none) :: (23, none) :: (24, none) :: (25, none) :: (26, some []) :: (27, none) :: (28, none) :: []) ([]) ([]) (by decide +kernel) fun O hO => ?_; simp only [OpsAre, Nat.reduceAdd, and_true, List.toList_toArray, List.append_eq, List.cons_append, List.nil_append] at hO; simp (maxSteps := 4000000) only [↓reduceIte, Nat.reduceLT, Nat.reduceEqDiff, reduceCtorEq, Nat.reduceAdd, Nat.reduceMul, Int.reduceLE, Int.reduceLT, Int.reduceToNat, Nat.reduceLeDiff, Nat.reduceSub, Int.reduceEq, Nat.reduceBEq, evB, tyA, hO, g1, g2, srs_len, h4]; (repeat (with_reducible refine And.intro ?_ ?_; exact sdX))
                refine callVC_scal fnok11 (c_Same false false x.2 y.2 (by omega)) rfl ?_
                cases h5 : x.2 == y.2
                · have hv2 := hne (by rintro rfl; simp at h5)
                  simp (maxSteps := 4000000) only [↓reduceIte, Nat.reduceLT, Nat.reduceEqDiff, reduceCtorEq, Nat.reduceAdd, Nat.reduceMul, Int.reduceLE, Int.reduceLT, Int.reduceToNat, Nat.reduceLeDiff, Nat.reduceSub, Int.reduceEq, Nat.reduceBEq, evB, tyA, hO, h5, kf]
                  (repeat (with_reducible refine And.intro ?_ ?_; exact sdX))
                  clear hO
                  (repeat (first | refine awp_seq ?_ | refine awp_block ?_ | ((first | refine awp_skip ?_ | refine awp_exit ?_ | refine awp_reg ttok ?_ | (refine awp_draw ttok ?dr_calm ?_; (case dr_calm => decide +kernel)) | refine awp_condM ?_); simp (maxSteps := 4000000) only [↓reduceIte, Nat.reduceLT, Nat.reduceEqDiff, reduceCtorEq, Nat.reduceAdd, Nat.reduceMul, Int.reduceLE, Int.reduceLT, Int.reduceToNat, Nat.reduceLeDiff, Nat.reduceSub, Int.reduceEq, Nat.reduceBEq, evB, tyA, kf]; (repeat (with_reducible refine And.intro ?_ ?_; exact sdX)); (with_reducible first | refine awp_id ?_ | refine id_call ?_ | refine id_and ?_ | refine id_ex ?_ | refine id_all ?_ | refine id_nat ?_ | refine id_le ?_))))
                  exact awp_ret (ends_plain (.inr rfl) rfl (by simp (maxSteps := 4000000) only [↓reduceIte, Nat.reduceLT, Nat.reduceEqDiff, reduceCtorEq, Nat.reduceAdd, Nat.reduceMul, Int.reduceLE, Int.reduceLT, Int.reduceToNat, Nat.reduceLeDiff, Nat.reduceSub, Int.reduceEq, Nat.reduceBEq, evB, hv, hv2]))
                · simp (maxSteps := 4000000) only [↓reduceIte, Nat.reduceLT, Nat.reduceEqDiff, reduceCtorEq, Nat.reduceAdd, Nat.reduceMul, Int.reduceLE, Int.reduceLT, Int.reduceToNat, Nat.reduceLeDiff, Nat.reduceSub, Int.reduceEq, Nat.reduceBEq, evB, tyA, hO, h5, kt]
                  (repeat (with_reducible refine And.intro ?_ ?_; exact sdX))
                  clear hO
                  (repeat (first | refine awp_seq ?_ | refine awp_block ?_ | ((first | refine awp_skip ?_ | refine awp_exit ?_ | refine awp_reg ttok ?_ | (refine awp_draw ttok ?dr_calm ?_; (case dr_calm => decide +kernel)) | refine awp_condM ?_); simp (maxSteps := 4000000) only [↓reduceIte, Nat.reduceLT, Nat.reduceEqDiff, reduceCtorEq, Nat.reduceAdd, Nat.reduceMul, Int.reduceLE, Int.reduceLT, Int.reduceToNat, Nat.reduceLeDiff, Nat.reduceSub, Int.reduceEq, Nat.reduceBEq, evB, tyA, kt, hw]; (repeat (with_reducible refine And.intro ?_ ?_; exact sdX)); (with_reducible first | refine awp_id ?_ | refine id_call ?_ | refine id_and ?_ | refine id_ex ?_ | refine id_all ?_ | refine id_nat ?_ | refine id_le ?_))))
                  refine ⟨j + 1, ⟨by omega, hst (Prod.ext h4' (eq_of_beq h5))⟩, by omega, mkS_le rfl ?_ ?_⟩
                  · exact evX
                  · exact evX
              · have hv2 := hne (by rintro rfl; simp at h4)
                (repeat (first | refine awp_seq ?_ | refine awp_block ?_ | ((first | refine awp_skip ?_ | refine awp_exit ?_ | refine awp_reg ttok ?_ | (refine awp_draw ttok ?dr_calm ?_; (case dr_calm => decide +kernel)) | refine awp_condM ?_); simp (maxSteps := 4000000) only [↓reduceIte, Nat.reduceLT, Nat.reduceEqDiff, reduceCtorEq, Nat.reduceAdd, Nat.reduceMul, Int.reduceLE, Int.reduceLT, Int.reduceToNat, Nat.reduceLeDiff, Nat.reduceSub, Int.reduceEq, Nat.reduceBEq, evB, tyA, srs_len, d1, g1, g2, h4]; (repeat (with_reducible refine And.intro ?_ ?_; exact sdX)); (with_reducible first | refine awp_id ?_ | refine id_call ?_ | refine id_and ?_ | refine id_ex ?_ | refine id_all ?_ | refine id_nat ?_ | refine id_le ?_))))
                refine awp_drawG ttok ((0, none) :: (1, none) :: (2, none) :: (3, none) :: (4, none) :: (5, none) :: (6, none) :: (7, none) :: (8, none) :: (9, none) :: (10, none) :: (11, none) :: (12, none) :: (13, none) :: (14, none) :: (15, none) :: (16, none) :: (17, none) :: (18, none) :: (19, none) :: (20, none) :: (21, none) :: (22, none) :: (23, none) :: (24, none) :: (25, none) :: (26, some []) :: (27, none) :: (28, none) :: []) ([]) ([]) (by decide +kernel) fun O hO => ?_; simp only [OpsAre, Nat.reduceAdd, and_true, List.toList_toArray, List.append_eq, List.cons_append, List.nil_append] at hO; simp (maxSteps := 4000000) only [↓reduceIte, Nat.reduceLT, Nat.reduceEqDiff, reduceCtorEq, Nat.reduceAdd, Nat.reduceMul, Int.reduceLE, Int.reduceLT, Int.reduceToNat, Nat.reduceLeDiff, Nat.reduceSub, Int.reduceEq, Nat.reduceBEq, evB, tyA, hO, g1, g2, srs_len, h4]; (repeat (with_reducible refine And.intro ?_ ?_; exact sdX))
                clear hO
                (repeat (first | refine awp_seq ?_ | refine awp_block ?_ | ((first | refine awp_skip ?_ | refine awp_exit ?_ | refine awp_reg ttok ?_ | (refine awp_draw ttok ?dr_calm ?_; (case dr_calm => decide +kernel)) | refine awp_condM ?_); simp (maxSteps := 4000000) only [↓reduceIte, Nat.reduceLT, Nat.reduceEqDiff, reduceCtorEq, Nat.reduceAdd, Nat.reduceMul, Int.reduceLE, Int.reduceLT, Int.reduceToNat, Nat.reduceLeDiff, Nat.reduceSub, Int.reduceEq, Nat.reduceBEq, evB, tyA]; (repeat (with_reducible refine And.intro ?_ ?_; exact sdX)); (with_reducible first | refine awp_id ?_ | refine id_call ?_ | refine id_and ?_ | refine id_ex ?_ | refine id_all ?_ | refine id_nat ?_ | refine id_le ?_))))
                exact awp_ret (ends_plain (.inr rfl) rfl (by simp (maxSteps := 4000000) only [↓reduceIte, Nat.reduceLT, Nat.reduceEqDiff, reduceCtorEq, Nat.reduceAdd, Nat.reduceMul, Int.reduceLE, Int.reduceLT, Int.reduceToNat, Nat.reduceLeDiff, Nat.reduceSub, Int.reduceEq, Nat.reduceBEq, evB, hv, hv2]))
            · have d1 : decide ((j : Int) < (l.length : Int)) = false := by simp; omega
              obtain rfl : j = l.length := by omega
              have hv2 := take_eq_all hlm htk
              (repeat (first | refine awp_seq ?_ | refine awp_block ?_ | ((first | refine awp_skip ?_ | refine awp_exit ?_ | refine awp_reg ttok ?_ | (refine awp_draw ttok ?dr_calm ?_; (case dr_calm => decide +kernel)) | refine awp_condM ?_); simp (maxSteps := 4000000) only [↓reduceIte, Nat.reduceLT, Nat.reduceEqDiff, reduceCtorEq, Nat.reduceAdd, Nat.reduceMul, Int.reduceLE, Int.reduceLT, Int.reduceToNat, Nat.reduceLeDiff, Nat.reduceSub, Int.reduceEq, Nat.reduceBEq, evB, tyA, d1, srs_len]; (repeat (with_reducible refine And.intro ?_ ?_; exact sdX)); (with_reducible first | refine awp_id ?_ | refine id_call ?_ | refine id_and ?_ | refine id_ex ?_ | refine id_all ?_ | refine id_nat ?_ | refine id_le ?_))))
              exact awp_ret (ends_plain (.inr rfl) rfl (by simp (maxSteps := 4000000) only [↓reduceIte, Nat.reduceLT, Nat.reduceEqDiff, reduceCtorEq, Nat.reduceAdd, Nat.reduceMul, Int.reduceLE, Int.reduceLT, Int.reduceToNat, Nat.reduceLeDiff, Nat.reduceSub, Int.reduceEq, Nat.reduceBEq, evB, hv, hv2]))
        · have k1 : ((l.length : Int) != (l'.length : Int)) = true := by rw [bne_iff_ne]; omega
          have hv2 : (l == l') = false := by rw [beq_eq_false_iff_ne]; rintro rfl; exact hlm rfl
          simp (maxSteps := 4000000) only [↓reduceIte, Nat.reduceLT, Nat.reduceEqDiff, reduceCtorEq, Nat.reduceAdd, Nat.reduceMul, Int.reduceLE, Int.reduceLT, Int.reduceToNat, Nat.reduceLeDiff, Nat.reduceSub, Int.reduceEq, Nat.reduceBEq, evB, tyA, h3, kt, srs_len, k1]
          (repeat (with_reducible refine And.intro ?_ ?_; exact sdX))
          (repeat (first | refine awp_seq ?_ | refine awp_block ?_ | ((first | refine awp_skip ?_ | refine awp_exit ?_ | refine awp_reg ttok ?_ | (refine awp_draw ttok ?dr_calm ?_; (case dr_calm => decide +kernel)) | refine awp_condM ?_); simp (maxSteps := 4000000) only [↓reduceIte, Nat.reduceLT, Nat.reduceEqDiff, reduceCtorEq, Nat.reduceAdd, Nat.reduceMul, Int.reduceLE, Int.reduceLT, Int.reduceToNat, Nat.reduceLeDiff, Nat.reduceSub, Int.reduceEq, Nat.reduceBEq, evB, tyA, kt, srs_len]; (repeat (with_reducible refine And.intro ?_ ?_; exact sdX)); (with_reducible first | refine awp_id ?_ | refine id_call ?_ | refine id_and ?_ | refine id_ex ?_ | refine id_all ?_ | refine id_nat ?_ | refine id_le ?_))))
          exact awp_ret (ends_plain (.inr rfl) rfl (by simp (maxSteps := 4000000) only [↓reduceIte, Nat.reduceLT, Nat.reduceEqDiff, reduceCtorEq, Nat.reduceAdd, Nat.reduceMul, Int.reduceLE, Int.reduceLT, Int.reduceToNat, Nat.reduceLeDiff, Nat.reduceSub, Int.reduceEq, Nat.reduceBEq, evB, hv, hv2]))
    · have hv : sameI a b l k a' b' l' k' = false := by simp only [sameI, beq_eq_false_iff_ne.2 (bne_iff_ne.1 h2), Bool.false_and, Bool.and_false]
      (repeat (first | refine awp_seq ?_ | refine awp_block ?_ | ((first | refine awp_skip ?_ | refine awp_exit ?_ | refine awp_reg ttok ?_ | (refine awp_draw ttok ?dr_calm ?_; (case dr_calm => decide +kernel)) | refine awp_condM ?_); simp (maxSteps := 4000000) only [↓reduceIte, Nat.reduceLT, Nat.reduceEqDiff, reduceCtorEq, Nat.reduceAdd, Nat.reduceMul, Int.reduceLE, Int.reduceLT, Int.reduceToNat, Nat.reduceLeDiff, Nat.reduceSub, Int.reduceEq, Nat.reduceBEq, evB, tyA, h1, h2]; (repeat (with_reducible refine And.intro ?_ ?_; exact sdX)); (with_reducible first | refine awp_id ?_ | refine id_call ?_ | refine id_and ?_ | refine id_ex ?_ | refine id_all ?_ | refine id_nat ?_ | refine id_le ?_))))
      exact awp_ret (ends_plain (.inr rfl) rfl (by simp (maxSteps := 4000000) only [↓reduceIte, Nat.reduceLT, Nat.reduceEqDiff, reduceCtorEq, Nat.reduceAdd, Nat.reduceMul, Int.reduceLE, Int.reduceLT, Int.reduceToNat, Nat.reduceLeDiff, Nat.reduceSub, Int.reduceEq, Nat.reduceBEq, evB, hv]))
  · have hv : sameI a b l k a' b' l' k' = false := by simp only [sameI, beq_eq_false_iff_ne.2 (bne_iff_ne.1 h1), Bool.false_and]
    (repeat (first | refine awp_seq ?_ | refine awp_block ?_ | ((first | refine awp_skip ?_ | refine awp_exit ?_ | refine awp_reg ttok ?_ | (refine awp_draw ttok ?dr_calm ?_; (case dr_calm => decide +kernel)) | refine awp_condM ?_); simp (maxSteps := 4000000) only [↓reduceIte, Nat.reduceLT, Nat.reduceEqDiff, reduceCtorEq, Nat.reduceAdd, Nat.reduceMul, Int.reduceLE, Int.reduceLT, Int.reduceToNat, Nat.reduceLeDiff, Nat.reduceSub, Int.reduceEq, Nat.reduceBEq, evB, tyA, h1]; (repeat (with_reducible refine And.intro ?_ ?_; exact sdX)); (with_reducible first | refine awp_id ?_ | refine id_call ?_ | refine id_and ?_ | refine id_ex ?_ | refine id_all ?_ | refine id_nat ?_ | refine id_le ?_))))
    exact awp_ret (ends_plain (.inr rfl) rfl (by simp (maxSteps := 4000000) only [↓reduceIte, Nat.reduceLT, Nat.reduceEqDiff, reduceCtorEq, Nat.reduceAdd, Nat.reduceMul, Int.reduceLE, Int.reduceLT, Int.reduceToNat, Nat.reduceLeDiff, Nat.reduceSub, Int.reduceEq, Nat.reduceBEq, evB, hv]))
def swp1 (N : List (List Int)) (o : List Bool) (i : Nat) : List Bool := if ((N.getD i []).any fun s => decide (s ≥ 0) && o.getD s.toNat false) = true then o.set i true else o
def swpS (N : List (List Int)) (o : List Bool) : Nat → List Bool
  | 0 => o
  | i + 1 => swp1 N (swpS N o i) i
def swp (N : List (List Int)) (o : List Bool) : List Bool := swpS N o N.length
def swpI (N : List (List Int)) (o : List Bool) : Nat → List Bool
  | 0 => o
  | r + 1 => swp N (swpI N o r)
def liveL (F : List Bool) (N : List (List Int)) : List Bool := swpI N F F.length
theorem swp1_len (N : List (List Int)) (o : List Bool) (i : Nat) : (swp1 N o i).length = o.length := by
  unfold swp1; split <;> simp
theorem swpS_len (N : List (List Int)) (o : List Bool) : ∀ i, (swpS N o i).length = o.length
  | 0 => rfl
  | i + 1 => by rw [swpS, swp1_len, swpS_len N o i]
theorem swp_len (N : List (List Int)) (o : List Bool) : (swp N o).length = o.length := swpS_len N o _
theorem swpI_len (N : List (List Int)) (o : List Bool) : ∀ r, (swpI N o r).length = o.length
  | 0 => rfl
  | r + 1 => by rw [swpI, swp_len, swpI_len N o r]
def bleB (o p : List Bool) : Prop := o.length = p.length ∧ ∀ j, o.getD j false = true → p.getD j false = true
theorem bleB_refl (o : List Bool) : bleB o o := ⟨rfl, fun _ h => h⟩
theorem bleB_trans {o p q : List Bool} (h : bleB o p) (k : bleB p q) : bleB o q := ⟨h.1.trans k.1, fun j g => k.2 j (h.2 j g)⟩
theorem set_ble (o : List Bool) (i : Nat) : bleB o (o.set i true) := by
  refine ⟨by simp, fun j h => ?_⟩
  simp only [List.getD, List.getElem?_set] at h ⊢
  split
  · split
    · rfl
    · rename_i h1 h2
      rw [List.getElem?_eq_none (by omega)] at h; cases h
  · exact h
theorem swp1_ble (N : List (List Int)) (o : List Bool) (i : Nat) : bleB o (swp1 N o i) := by
  unfold swp1; split
  · exact set_ble o i
  · exact bleB_refl o
theorem swpS_ble (N : List (List Int)) (o : List Bool) : ∀ i, bleB o (swpS N o i)
  | 0 => bleB_refl o
  | i + 1 => bleB_trans (swpS_ble N o i) (swp1_ble N _ i)
theorem swp_ble (N : List (List Int)) (o : List Bool) : bleB o (swp N o) := swpS_ble N o _
theorem swpI_ble (N : List (List Int)) (o : List Bool) : ∀ r, bleB o (swpI N o r)
  | 0 => bleB_refl o
  | r + 1 => bleB_trans (swpI_ble N o r) (swp_ble N _)
theorem ble_count : ∀ {o p : List Bool}, bleB o p → o.count true ≤ p.count true ∧ (o.count true = p.count true → o = p)
  | [], [], _ => ⟨Nat.le_refl _, fun _ => rfl⟩
  | [], _ :: _, h => by have := h.1; simp at this
  | _ :: _, [], h => by have := h.1; simp at this
  | a :: o, b :: p, h => by
    have h1 : bleB o p := ⟨by have := h.1; simpa using this, fun j g => by have := h.2 (j + 1); simpa using this (by simpa using g)⟩
    obtain ⟨g1, g2⟩ := ble_count h1
    have h0 : a = true → b = true := by have := h.2 0; simpa using this
    cases a <;> cases b
    · simp only [List.count_cons]; refine ⟨by simpa using g1, fun e => ?_⟩
      rw [g2 (by simpa using e)]
    · simp only [List.count_cons]
      refine ⟨by simp; omega, fun e => ?_⟩
      simp at e; omega
    · cases h0 rfl
    · simp only [List.count_cons]; refine ⟨by simpa using g1, fun e => ?_⟩
      rw [g2 (by simpa using e)]
theorem swpI_stable {N : List (List Int)} {o : List Bool} {r : Nat} (h : swp N (swpI N o r) = swpI N o r) : ∀ k, swpI N o (r + k) = swpI N o r
  | 0 => rfl
  | k + 1 => by rw [← Nat.add_assoc, swpI, swpI_stable h k, h]
theorem swpI_grows {N : List (List Int)} {o : List Bool} : ∀ r, (∃ q, q ≤ r ∧ swp N (swpI N o q) = swpI N o q) ∨ r + 1 ≤ (swpI N o (r + 1)).count true
  | 0 => by
    by_cases h : swp N (swpI N o 0) = swpI N o 0
    · exact .inl ⟨0, Nat.le_refl _, h⟩
    · right
      have hb := ble_count (swp_ble N (swpI N o 0))
      have : (swpI N o 0).count true ≠ (swp N (swpI N o 0)).count true := fun e => h (hb.2 e).symm
      have e : swpI N o (0 + 1) = swp N (swpI N o 0) := rfl
      rw [e]; omega
  | r + 1 => by
    rcases swpI_grows (N := N) (o := o) r with ⟨q, h1, h2⟩ | h
    · exact .inl ⟨q, by omega, h2⟩
    · by_cases hs : swp N (swpI N o (r + 1)) = swpI N o (r + 1)
      · exact .inl ⟨r + 1, Nat.le_refl _, hs⟩
      · right
        have hb := ble_count (swp_ble N (swpI N o (r + 1)))
        have : (swpI N o (r + 1)).count true ≠ (swp N (swpI N o (r + 1))).count true := fun e => hs (hb.2 e).symm
        have e : swpI N o (r + 1 + 1) = swp N (swpI N o (r + 1)) := rfl
        rw [e]; omega
theorem liveL_stable (F : List Bool) (N : List (List Int)) : swp N (liveL F N) = liveL F N := by
  have key : ∃ q, q ≤ F.length ∧ swp N (swpI N F q) = swpI N F q := by
    rcases swpI_grows (N := N) (o := F) F.length with h | h
    · exact h
    · exfalso
      have h1 := List.count_le_length (a := true) (l := swpI N F (F.length + 1))
      rw [swpI_len] at h1; omega
  obtain ⟨q, h1, h2⟩ := key
  have := swpI_stable h2 (F.length - q)
  rw [show q + (F.length - q) = F.length by omega] at this
  unfold liveL
  rw [this]; exact h2
theorem liveL_of {F : List Bool} {N : List (List Int)} {r : Nat} (h : swp N (swpI N F r) = swpI N F r) : swpI N F r = liveL F N := by
  have h2 := liveL_stable F N
  rcases Nat.le_total r F.length with q | q
  · have := swpI_stable h (F.length - r)
    rw [show r + (F.length - r) = F.length by omega] at this
    exact this.symm
  · have := swpI_stable (r := F.length) h2 (r - F.length)
    rw [show F.length + (r - F.length) = r by omega] at this
    exact this
theorem liveL_len (F : List Bool) (N : List (List Int)) : (liveL F N).length = F.length := swpI_len N F _
theorem liveL_fin {F : List Bool} {N : List (List Int)} {s : Nat} (h : F.getD s false = true) : (liveL F N).getD s false = true := (swpI_ble N F _).2 s h
theorem swpS_eq {N : List (List Int)} {o : List Bool} (h : swp N o = o) : ∀ i, i ≤ N.length → swpS N o i = o := by
  intro i hi
  have h1 : bleB o (swpS N o i) := swpS_ble N o i
  have h2 : ∀ k, bleB (swpS N o i) (swpS N o (i + k)) := fun k => by
    induction k with
    | zero => exact bleB_refl _
    | succ k ih => exact bleB_trans ih (swp1_ble N _ _)
  have h3 := h2 (N.length - i)
  rw [show i + (N.length - i) = N.length by omega, show swpS N o N.length = o from h] at h3
  have c1 := ble_count h1
  have c2 := ble_count h3
  exact (c1.2 (by omega)).symm
theorem liveL_step {F : List Bool} {N : List (List Int)} {s : Nat} {t : Int} (hs : s < N.length) (hl : N.length = F.length) (hm : t ∈ N.getD s []) (h0 : 0 ≤ t) (ht : (liveL F N).getD t.toNat false = true) : (liveL F N).getD s false = true := by
  have h1 := swpS_eq (liveL_stable F N) s (by omega)
  have h2 := swpS_eq (liveL_stable F N) (s + 1) (by omega)
  rw [swpS, h1, swp1, if_pos (by rw [List.any_eq_true]; exact ⟨t, hm, by rw [ht, Bool.and_true]; simpa using h0⟩)] at h2
  rw [← h2]
  have hsl : s < (liveL F N).length := by rw [liveL_len]; omega
  simp [List.getD, List.getElem?_set, hsl]
inductive Lv (F : List Bool) (N : List (List Int)) : Nat → Prop
  | fin {s : Nat} (h : F.getD s false = true) : Lv F N s
  | step {s : Nat} {t : Int} (hm : t ∈ N.getD s []) (h0 : 0 ≤ t) (h : Lv F N t.toNat) : Lv F N s
theorem swp1_lv {F : List Bool} {N : List (List Int)} {o : List Bool} {i : Nat} (h : ∀ j, o.getD j false = true → Lv F N j) : ∀ j, (swp1 N o i).getD j false = true → Lv F N j := by
  intro j hj
  unfold swp1 at hj
  split at hj
  · rename_i ha
    by_cases hij : i = j
    · subst hij
      obtain ⟨t, ht, hp⟩ := List.any_eq_true.1 ha
      simp only [Bool.and_eq_true, decide_eq_true_eq] at hp
      exact .step ht hp.1 (h _ hp.2)
    · simp only [List.getD, List.getElem?_set_ne hij] at hj
      exact h j hj
  · exact h j hj
theorem swpS_lv {F : List Bool} {N : List (List Int)} {o : List Bool} (h : ∀ j, o.getD j false = true → Lv F N j) : ∀ i j, (swpS N o i).getD j false = true → Lv F N j
  | 0 => h
  | i + 1 => swp1_lv (swpS_lv h i)
theorem swpI_lv {F : List Bool} {N : List (List Int)} : ∀ r j, (swpI N F r).getD j false = true → Lv F N j
  | 0 => fun _ h => .fin h
  | r + 1 => swpS_lv (swpI_lv r) _
theorem liveL_lv {F : List Bool} {N : List (List Int)} {s : Nat} (h : (liveL F N).getD s false = true) : Lv F N s := swpI_lv _ s h
def lowB (m : Nat) (c : Int) : Nat := (BitVec.ofInt IntKind.i64.bits c &&& BitVec.ofInt IntKind.i64.bits (m : Int)).toNat
theorem lowB_le (m : Nat) (c : Int) (hm : m ≤ 2147483647) : lowB m c ≤ m := by
  rw [lowB, BitVec.toNat_and]
  refine Nat.le_trans Nat.and_le_right ?_
  simp only [BitVec.toNat_ofInt]
  have : ((m : Int) % ((2 ^ IntKind.i64.bits : Nat) : Int)).toNat = m % 2 ^ IntKind.i64.bits := by
    rw [← Int.natCast_emod]; rfl
  rw [this]
  exact Nat.mod_le _ _
theorem lowB_wrap (m : Nat) (c : Int) (hm : m ≤ 2147483647) : IntKind.i64.wrap ((BitVec.ofInt IntKind.i64.bits c &&& BitVec.ofInt IntKind.i64.bits (m : Int)).toNat : Int) = (lowB m c : Int) := by
  have h := lowB_le m c hm
  exact i64_in (by omega) (by unfold lowB at h; omega)
theorem lowW1 (c : Int) : IntKind.i64.wrap ((BitVec.ofInt IntKind.i64.bits c &&& BitVec.ofInt IntKind.i64.bits 1).toNat : Int) = (lowB 1 c : Int) := lowB_wrap 1 c (by decide)
theorem lowW3 (c : Int) : IntKind.i64.wrap ((BitVec.ofInt IntKind.i64.bits c &&& BitVec.ofInt IntKind.i64.bits 3).toNat : Int) = (lowB 3 c : Int) := lowB_wrap 3 c (by decide)
theorem lowW7 (c : Int) : IntKind.i64.wrap ((BitVec.ofInt IntKind.i64.bits c &&& BitVec.ofInt IntKind.i64.bits 7).toNat : Int) = (lowB 7 c : Int) := lowB_wrap 7 c (by decide)
theorem lowW255 (c : Int) : IntKind.i64.wrap ((BitVec.ofInt IntKind.i64.bits c &&& BitVec.ofInt IntKind.i64.bits 255).toNat : Int) = (lowB 255 c : Int) := lowB_wrap 255 c (by decide)
theorem tmodN (a b : Nat) : Int.tmod (a : Int) (b : Int) = ((a % b : Nat) : Int) := rfl
def iis (l : List (List Int)) : List (List D) := l.map fun x => [.sl false (ints x)]
theorem iis_len (l : List (List Int)) : (iis l).length = l.length := by simp [iis]
theorem iis_row (l : List (List Int)) : (∀ row ∈ iis l, row.length = 1) = True := by simp [iis]
theorem iis_get {l : List (List Int)} {i : Nat} (h : i < l.length) : (iis l).getD i [] = [.sl false (ints (l.getD i []))] := by
  simp [iis, List.getD, List.getElem?_eq_getElem h]
theorem iis_app (l m : List (List Int)) : iis l ++ iis m = iis (l ++ m) := by simp [iis]
theorem iis_take (l : List (List Int)) (k : Nat) : (iis l).take k = iis (l.take k) := by simp [iis]
theorem iis_one (z : List Int) : [[D.sl false (ints z)]] = iis [z] := rfl
def bos (l : List Bool) : List (List D) := l.map fun b => [bo b]
theorem bos_len (l : List Bool) : (bos l).length = l.length := by simp [bos]
theorem bos_row (l : List Bool) : (∀ row ∈ bos l, row.length = 1) = True := by
  simp only [bos, List.mem_map, eq_iff_iff, iff_true]
  rintro row ⟨x, _, rfl⟩; rfl
theorem bos_get {l : List Bool} {i : Nat} (h : i < l.length) : (bos l).getD i [] = [bo (l.getD i false)] := by
  simp [bos, List.getD, List.getElem?_eq_getElem h]
theorem bos_app (l m : List Bool) : bos l ++ bos m = bos (l ++ m) := by simp [bos]
theorem bos_take (l : List Bool) (k : Nat) : (bos l).take k = bos (l.take k) := by simp [bos]
theorem bos_one (b : Bool) : [[bo b]] = bos [b] := rfl
theorem bos_set (l : List Bool) (j : Nat) (b : Bool) : (bos l).set j [bo b] = bos (l.set j b) := by simp [bos]
theorem bos_nil (l : List Bool) : (bos l = []) = (l = []) := by simp [bos]
def labD (z : Int) : Nat := lowB 3 z + lowB 1 (z.fdiv (2 ^ min 2 IntKind.i64.bits))
def numD (z : Int) : Nat := lowB 7 z + 1
def startD (z : Int) : Nat := lowB 255 (z.fdiv (2 ^ min 3 IntKind.i64.bits)) % numD z
theorem labD_le (z : Int) : labD z ≤ 4 := by
  have h1 := lowB_le 3 z (by decide)
  have h2 := lowB_le 1 (z.fdiv (2 ^ min 2 IntKind.i64.bits)) (by decide)
  unfold labD; omega
theorem numD_le (z : Int) : 1 ≤ numD z ∧ numD z ≤ 8 := by
  have h1 := lowB_le 7 z (by decide)
  unfold numD; omega
theorem startD_lt (z : Int) : startD z < numD z := Nat.mod_lt _ (by have := numD_le z; omega)
def finD (f : Int) (n : Nat) : List Bool := (List.range n).map fun i => ((lowB 1 (f.fdiv (2 ^ min i IntKind.i64.bits)) : Int) == 1)
theorem finD_len (f : Int) (n : Nat) : (finD f n).length = n := by simp [finD]
theorem finD_succ (f : Int) (n : Nat) : finD f (n + 1) = finD f n ++ [((lowB 1 (f.fdiv (2 ^ min n IntKind.i64.bits)) : Int) == 1)] := by simp [finD, List.range_succ]
def negs (n : Nat) : List Int := List.replicate n (-1)
def nx0 (L n : Nat) : List (List Int) := List.replicate n (negs L)
def setN (N : List (List Int)) (f c : Nat) (t : Int) : List (List Int) := N.set f ((N.getD f []).set c t)
def mvF (k : Nat) (x : Int × Int × Int) : Nat := lowB 255 x.1 % k
def mvT (k : Nat) (x : Int × Int × Int) : Nat := lowB 255 x.2.1 % k
def mvC (L : Nat) (x : Int × Int × Int) : Nat := lowB 255 x.2.2 % L
def nxD (L k : Nat) (l : List (Int × Int × Int)) : Nat → List (List Int)
  | 0 => nx0 L k
  | i + 1 => setN (nxD L k l i) (mvF k (l.getD i (0, 0, 0))) (mvC L (l.getD i (0, 0, 0))) (mvT k (l.getD i (0, 0, 0)))
structure NOk (L k : Nat) (N : List (List Int)) : Prop where
  len : N.length = k
  row : ∀ r ∈ N, r.length = L ∧ ∀ t ∈ r, -1 ≤ t ∧ t < (k : Int)
theorem NOk.get {L k : Nat} {N : List (List Int)} (h : NOk L k N) {s : Nat} (hs : s < k) : (N.getD s []).length = L ∧ ∀ t ∈ N.getD s [], -1 ≤ t ∧ t < (k : Int) := by
  have hl := h.len
  have e : N.getD s [] = N[s]'(by omega) := by simp [List.getD, List.getElem?_eq_getElem (show s < N.length by omega)]
  rw [e]; exact h.row _ (List.getElem_mem _)
theorem nx0_ok (L : Nat) {k : Nat} (hk : 1 ≤ k) : NOk L k (nx0 L k) := by
  refine ⟨by simp [nx0], fun r hr => ?_⟩
  rw [List.eq_of_mem_replicate hr]
  refine ⟨by simp [negs], fun t ht => ?_⟩
  rw [List.eq_of_mem_replicate ht]; omega
theorem setN_ok {L k : Nat} {N : List (List Int)} (h : NOk L k N) {f c t : Nat} (hf : f < k) (ht : t < k) : NOk L k (setN N f c t) := by
  refine ⟨by simp [setN, h.len], fun r hr => ?_⟩
  rcases List.mem_or_eq_of_mem_set hr with q | q
  · exact h.row r q
  · obtain ⟨g1, g2⟩ := h.get hf
    rw [q]
    refine ⟨by simpa using g1, fun u hu => ?_⟩
    rcases List.mem_or_eq_of_mem_set hu with q2 | q2
    · exact g2 u q2
    · rw [q2]; omega
theorem nxD_ok {L k : Nat} (hk : 1 ≤ k) (l : List (Int × Int × Int)) : ∀ i, NOk L k (nxD L k l i)
  | 0 => nx0_ok L hk
  | i + 1 => setN_ok (nxD_ok hk l i) (Nat.mod_lt _ hk) (Nat.mod_lt _ hk)
def nextD (L k : Nat) (l : List (Int × Int × Int)) : List (List Int) := nxD L k l (if L = 0 then 0 else min l.length 24)
theorem nextD_ok {L k : Nat} (hk : 1 ≤ k) (l : List (Int × Int × Int)) : NOk L k (nextD L k l) := nxD_ok hk l _
def toD (N : List (List Int)) (s k : Int) : Int := if s < 0 ∨ (N.length : Int) ≤ s ∨ k < 0 ∨ ((N.getD s.toNat []).length : Int) ≤ k then -1 else (N.getD s.toNat []).getD k.toNat 0
def runD (N : List (List Int)) : Int → List Int → Int
  | s, [] => s
  | s, k :: w => if s < 0 then s else runD N (toD N s k) w
def endsD (F : List Bool) (N : List (List Int)) (s : Int) (w : List Int) : Bool := decide (0 ≤ runD N s w) && F.getD (runD N s w).toNat false
theorem toD_ok {L k : Nat} {N : List (List Int)} (h : NOk L k N) (s c : Int) : -1 ≤ toD N s c ∧ toD N s c < (k : Int) ∨ toD N s c = -1 := by
  unfold toD
  split
  · exact .inr rfl
  · rename_i hn
    have hl := h.len
    have hs : s.toNat < k := by omega
    obtain ⟨g1, g2⟩ := h.get hs
    have hc : c.toNat < (N.getD s.toNat []).length := by omega
    left
    have e : (N.getD s.toNat []).getD c.toNat 0 = (N.getD s.toNat [])[c.toNat] := by
      generalize N.getD s.toNat [] = r at hc ⊢
      simp [List.getD, List.getElem?_eq_getElem hc]
    rw [e]; exact g2 _ (List.getElem_mem _)
theorem toD_mem {N : List (List Int)} {s k : Int} (h : 0 ≤ toD N s k) : 0 ≤ s ∧ s.toNat < N.length ∧ toD N s k ∈ N.getD s.toNat [] := by
  unfold toD at h ⊢
  split at h
  · omega
  · rename_i hn
    refine ⟨by omega, by omega, ?_⟩
    rw [if_neg hn]
    have hc : k.toNat < (N.getD s.toNat []).length := by omega
    generalize N.getD s.toNat [] = r at hc ⊢
    simp [List.getD, List.getElem?_eq_getElem hc]
theorem toD_of {N : List (List Int)} {s : Nat} {t : Int} (hs : s < N.length) (ht : t ∈ N.getD s []) : ∃ k : Nat, k < (N.getD s []).length ∧ toD N s k = t := by
  obtain ⟨k, hk, rfl⟩ := List.getElem_of_mem ht
  refine ⟨k, hk, ?_⟩
  unfold toD
  rw [if_neg (by rw [Int.toNat_natCast]; omega), Int.toNat_natCast, Int.toNat_natCast]
  generalize N.getD s [] = r at hk ⊢
  simp [List.getD, List.getElem?_eq_getElem hk]
theorem runD_neg {N : List (List Int)} : ∀ {w : List Int} {s : Int}, s < 0 → runD N s w = s
  | [], s, _ => rfl
  | k :: w, s, h => by rw [runD, if_pos h]
theorem lv_of_run {F : List Bool} {N : List (List Int)} : ∀ {w : List Int} {s : Int}, 0 ≤ s → endsD F N s w = true → Lv F N s.toNat
  | [], s, h0, h => by
    simp only [endsD, runD, Bool.and_eq_true] at h
    exact .fin h.2
  | k :: w, s, h0, h => by
    have hr : runD N s (k :: w) = runD N (toD N s k) w := by rw [runD, if_neg (by omega)]
    have h' : endsD F N (toD N s k) w = true := by unfold endsD at h ⊢; rw [hr] at h; exact h
    have ht : 0 ≤ toD N s k := by
      rcases Int.lt_or_le (toD N s k) 0 with q | q
      · simp only [endsD, runD_neg q, Bool.and_eq_true, decide_eq_true_eq] at h'
        omega
      · exact q
    exact .step (toD_mem ht).2.2 ht (lv_of_run ht h')
theorem run_of_lv {F : List Bool} {N : List (List Int)} (hl : F.length ≤ N.length) {s : Nat} (h : Lv F N s) : ∃ w, endsD F N s w = true := by
  induction h with
  | @fin s h => exact ⟨[], by simp only [endsD, runD, Int.toNat_natCast, h, Bool.and_true]; simp⟩
  | @step s t hm h0 h ih =>
    obtain ⟨w, hw⟩ := ih
    have hs : s < N.length := by
      rcases Nat.lt_or_ge s N.length with q | q
      · exact q
      · simp [List.getD, List.getElem?_eq_none q] at hm
    obtain ⟨k, _, hk⟩ := toD_of hs hm
    refine ⟨(k : Int) :: w, ?_⟩
    rw [show ((t.toNat : Nat) : Int) = t by omega] at hw
    unfold endsD at hw ⊢
    rw [runD, if_neg (by omega), hk]
    exact hw
theorem live_iff {F : List Bool} {N : List (List Int)} (hl : F.length = N.length) (hb : ∀ s, ∀ t ∈ N.getD s [], t < (N.length : Int)) {s : Nat} (hs : s < N.length) : (liveL F N).getD s false = true ↔ Lv F N s := by
  refine ⟨liveL_lv, fun h => ?_⟩
  induction h with
  | @fin s h => exact liveL_fin h
  | @step s t hm h0 h ih =>
    have := hb s t hm
    exact liveL_step hs hl.symm hm h0 (ih (by omega))
def fam (n : Nat) (g : Nat → AObj) : List (Nat × AObj) := (List.range n).map fun r => (r + 90000, g r)
def ownRows (n L : Nat) : List (List D) := (List.range n).map fun r => [D.own (r + 90000) 0 L]
theorem lk_none {α : Type} : ∀ {l : List (Nat × α)} {t : Nat}, (∀ x ∈ l, x.1 ≠ t) → lk l t = none
  | [], t, _ => rfl
  | (k, d) :: l, t, h => by
    rw [lk, if_neg (fun e => h (k, d) (by simp) e.symm)]
    exact lk_none fun x hx => h x (by simp [hx])
theorem lk_app {α : Type} : ∀ {l m : List (Nat × α)} {t : Nat}, lk (l ++ m) t = (match lk l t with | some d => some d | none => lk m t)
  | [], m, t => by simp [lk]
  | (k, d) :: l, m, t => by
    rw [List.cons_append, lk, lk]
    split
    · rfl
    · exact lk_app
theorem lk_fam {n : Nat} {g : Nat → AObj} {f : Nat} (h : f < n) : lk (fam n g) (f + 90000) = some (g f) := by
  induction n with
  | zero => omega
  | succ n ih =>
    rw [fam, List.range_succ, List.map_append, ← fam, lk_app]
    rcases Nat.lt_or_ge f n with q | q
    · rw [ih q]
    · have : f = n := by omega
      subst this
      rw [lk_none (by intro x hx; obtain ⟨r, hr, rfl⟩ := List.mem_map.1 hx; have := List.mem_range.1 hr; simp; omega)]
      simp [lk]
theorem lk_famO {n : Nat} {g : Nat → AObj} : lk (fam n g) (n + 90000) = none :=
  lk_none (by intro x hx; obtain ⟨r, hr, rfl⟩ := List.mem_map.1 hx; have := List.mem_range.1 hr; simp; omega)
theorem knowsH_app {st : St} : ∀ {l m : List (Nat × AObj)}, KnowsH st (l ++ m) = (KnowsH st l ∧ KnowsH st m)
  | [], m => by simp [KnowsH]
  | (k, d) :: l, m => by rw [List.cons_append, KnowsH, KnowsH, knowsH_app, and_assoc]
theorem knowsH_iff {st : St} : ∀ {l : List (Nat × AObj)}, KnowsH st l ↔ ∀ x ∈ l, st.heap x.1 = some x.2
  | [] => by simp [KnowsH]
  | (k, d) :: l => by simp [KnowsH, knowsH_iff]
theorem knowsH_fam {st : St} {n : Nat} {g : Nat → AObj} : KnowsH st (fam n g) = ∀ r, r < n → st.heap (r + 90000) = some (g r) := by
  rw [eq_iff_iff, knowsH_iff]
  simp [fam]
theorem ownRows_len (n L : Nat) : (ownRows n L).length = n := by simp [ownRows]
theorem ownRows_get {n L f : Nat} (h : f < n) : (ownRows n L).getD f [] = [D.own (f + 90000) 0 L] := by simp [ownRows, List.getD, h]
theorem ownRows_app (n L : Nat) : ownRows n L ++ [[D.own (n + 90000) 0 L]] = ownRows (n + 1) L := by simp [ownRows, List.range_succ]
theorem ownRows_take (n L : Nat) : (ownRows n L).take n = ownRows n L := List.take_of_length_le (by simp [ownRows])
theorem ownRows_row (n L : Nat) : (∀ row ∈ ownRows n L, row.length = 1) = True := by simp [ownRows]
theorem ownRows_kill {n L k : Nat} (h : decide (k < 90000) = true) : (ownRows n L).map (D.killL k) = ownRows n L := by
  have := of_decide_eq_true h
  simp only [ownRows, List.map_map]
  apply List.map_congr_left
  intro r _
  simp only [Function.comp, D.killL, D.kill]
  rw [if_neg (by omega)]
theorem ownRows_killB {n L k : Nat} (hn : n ≤ 1000000) (h : 50000000 ≤ k) : (ownRows n L).map (D.killL k) = ownRows n L := by
  simp only [ownRows, List.map_map]
  apply List.map_congr_left
  intro r hr
  have := List.mem_range.1 hr
  simp only [Function.comp, D.killL, D.kill]
  rw [if_neg (by omega)]
theorem ownRows_killO {n L : Nat} : (ownRows n L).map (D.killL (n + 90000)) = ownRows n L := by
  simp only [ownRows, List.map_map]
  apply List.map_congr_left
  intro r hr
  have := List.mem_range.1 hr
  simp only [Function.comp, D.killL, D.kill]
  rw [if_neg (by omega)]
theorem purLL_own {h : Nat → Option AObj} {L : Nat} {g : Nat → AObj} : ∀ (l : List Nat), (∀ r ∈ l, h (r + 90000) = some (g r) ∧ (g r).flat = true ∧ (g r).rows.length = L) →
    ∃ p, purLL (pur h 4) (l.map fun r => [D.own (r + 90000) 0 L]) = some (l.map (· + 90000), p, l.map fun r => [D.sl false (g r).rows]) ∧ p
  | [], _ => ⟨True, rfl, trivial⟩
  | r :: l, hg => by
    obtain ⟨p, e, hp⟩ := purLL_own (h := h) (L := L) (g := g) l fun r hr => hg r (by simp [hr])
    obtain ⟨h1, h2, h3⟩ := hg r (by simp)
    refine ⟨((0 + L ≤ (g r).rows.length) ∧ True) ∧ p, ?_, ⟨⟨by omega, trivial⟩, hp⟩⟩
    rw [List.map_cons, purLL, e]
    simp only [purL, pur, purB, h1, h2, if_true, List.nil_append, List.cons_append, List.map_cons, List.append_nil, List.drop_zero, List.take_of_length_le (Nat.le_of_eq h3)]
theorem map90000_has {l : List Nat} {k : Nat} (h : decide (k < 90000) = true) : (l.map (· + 90000)).contains k = false := by
  have := of_decide_eq_true h
  simp only [List.contains_eq_mem, List.mem_map, decide_eq_false_iff_not]
  rintro ⟨r, _, q⟩; omega
def tri (l : List (Int × Int × Int)) : List (List D) := l.map fun x => [i64 x.1, i64 x.2.1, i64 x.2.2]
theorem tri_len (l : List (Int × Int × Int)) : (tri l).length = l.length := by simp [tri]
theorem tri_get {l : List (Int × Int × Int)} {i : Nat} (h : i < l.length) : (tri l).getD i [] = [i64 (l.getD i (0, 0, 0)).1, i64 (l.getD i (0, 0, 0)).2.1, i64 (l.getD i (0, 0, 0)).2.2] := by
  simp [tri, List.getD, List.getElem?_eq_getElem h]
theorem tri_take (l : List (Int × Int × Int)) (k : Nat) : (tri l).take k = tri (l.take k) := by simp [tri]
end Go.Proofs.Ytkpplakjdcpoaaa
