import Derived.Test.YtgjdgomkcdleiaaFin
import Derived.Test.YtgjdgomkcdleiaaTy
set_option linter.unusedSimpArgs false
set_option linter.unusedVariables false
namespace Go.Proofs.Ytgjdgomkcdleiaa
open Go.Ab
theorem and_low (c : Int) (m : Nat) (hm : m ≤ 65535) : ∃ C : Nat, C ≤ m ∧ IntKind.i64.wrap ((BitVec.ofInt IntKind.i64.bits c &&& BitVec.ofInt IntKind.i64.bits (m : Int)).toNat : Int) = (C : Int) := by
  refine ⟨(BitVec.ofInt IntKind.i64.bits c &&& BitVec.ofInt IntKind.i64.bits (m : Int)).toNat, ?_, ?_⟩
  all_goals
    have h1 : (BitVec.ofInt IntKind.i64.bits c &&& BitVec.ofInt IntKind.i64.bits (m : Int)).toNat ≤ m := by
      rw [BitVec.toNat_and]
      refine Nat.le_trans Nat.and_le_right ?_
      simp only [BitVec.toNat_ofInt]
      have : ((m : Int) % ((2 ^ IntKind.i64.bits : Nat) : Int)).toNat = m % 2 ^ IntKind.i64.bits := by
        rw [← Int.natCast_emod]; rfl
      rw [this]
      exact Nat.mod_le _ _
  · exact h1
  · exact i64_in (by omega) (by omega)
set_option maxHeartbeats 1600000 in
theorem c_CloneI (full : Bool) (l : List Int) (hl : l.length * 8 ≤ 140737488355328) : Contract Try.prog 15 [.sl full (ints l)] (.own 0 0 l.length) [{ sz := 1, rows := ints l }] := by
  refine contract_of_awp (rs := [2]) Try.func15 rfl Try.ntmps15 (by simp) rfl fun E => ?_
  (repeat (first | refine awp_seq ?_ | refine awp_block ?_ | ((first | refine awp_skip ?_ | refine awp_exit ?_ | refine awp_reg ttok ?_ | (refine awp_draw ttok ?dr_calm ?_; (case dr_calm => decide +kernel)) | refine awp_condM ?_); simp (maxSteps := 4000000) only [↓reduceIte, Nat.reduceLT, Nat.reduceEqDiff, reduceCtorEq, Nat.reduceAdd, Nat.reduceMul, Int.reduceLE, Int.reduceLT, Int.reduceToNat, Nat.reduceLeDiff, Nat.reduceSub, Int.reduceEq, Nat.reduceBEq, evB, tyA]; (repeat (with_reducible refine And.intro ?_ ?_; exact sdX)); (with_reducible first | refine awp_id ?_ | refine id_call ?_ | refine id_and ?_ | refine id_ex ?_ | refine id_all ?_ | refine id_nat ?_ | refine id_le ?_))))
  intro b hb
  refine awp_cond (t := (b != false)) ?_ (fun h => ?_) (fun h => ?_)
  · exact evX
  · have hl0 : l = [] := by
      have := hb (by simpa using h)
      simpa [ints] using this
    subst hl0
    (repeat (first | refine awp_seq ?_ | refine awp_block ?_ | ((first | refine awp_skip ?_ | refine awp_exit ?_ | refine awp_reg ttok ?_ | (refine awp_draw ttok ?dr_calm ?_; (case dr_calm => decide +kernel)) | refine awp_condM ?_); simp (maxSteps := 4000000) only [↓reduceIte, Nat.reduceLT, Nat.reduceEqDiff, reduceCtorEq, Nat.reduceAdd, Nat.reduceMul, Int.reduceLE, Int.reduceLT, Int.reduceToNat, Nat.reduceLeDiff, Nat.reduceSub, Int.reduceEq, Nat.reduceBEq, evB, tyA]; (repeat (with_reducible refine And.intro ?_ ?_; exact sdX)); (with_reducible first | refine awp_id ?_ | refine id_call ?_ | refine id_and ?_ | refine id_ex ?_ | refine id_all ?_ | refine id_nat ?_ | refine id_le ?_))))
    refine awp_own_nil 2 9000 1 ?_ (by decide) (awp_ret ?_)
    · exact evX
    · exact ends_own (g := 9000) (.inr rfl) (by simp (maxSteps := 4000000) only [↓reduceIte, Nat.reduceLT, Nat.reduceEqDiff, reduceCtorEq, Nat.reduceAdd, Nat.reduceMul, Int.reduceLE, Int.reduceLT, Int.reduceToNat, Nat.reduceLeDiff, Nat.reduceSub, Int.reduceEq, Nat.reduceBEq, evB, St.toOwn]) (by simp (maxSteps := 4000000) only [↓reduceIte, Nat.reduceLT, Nat.reduceEqDiff, reduceCtorEq, Nat.reduceAdd, Nat.reduceMul, Int.reduceLE, Int.reduceLT, Int.reduceToNat, Nat.reduceLeDiff, Nat.reduceSub, Int.reduceEq, Nat.reduceBEq, evB, St.toOwn, ints]) rfl
  · (repeat (first | refine awp_seq ?_ | refine awp_block ?_ | ((first | refine awp_skip ?_ | refine awp_exit ?_ | refine awp_reg ttok ?_ | (refine awp_draw ttok ?dr_calm ?_; (case dr_calm => decide +kernel)) | refine awp_condM ?_); simp (maxSteps := 4000000) only [↓reduceIte, Nat.reduceLT, Nat.reduceEqDiff, reduceCtorEq, Nat.reduceAdd, Nat.reduceMul, Int.reduceLE, Int.reduceLT, Int.reduceToNat, Nat.reduceLeDiff, Nat.reduceSub, Int.reduceEq, Nat.reduceBEq, evB, tyA]; (repeat (with_reducible refine And.intro ?_ ?_; exact sdX)); (with_reducible first | refine awp_id ?_ | refine id_call ?_ | refine id_and ?_ | refine id_ex ?_ | refine id_all ?_ | refine id_nat ?_ | refine id_le ?_))))
    exact awp_ret (ends_own (g := 4000) (.inr rfl) evX evX rfl)
set_option maxHeartbeats 1600000 in
theorem c_Same (f g : Bool) (l m : List Int) (hl : l.length ≤ 9223372036854775807) : Contract Try.prog 7 [.sl f (ints l), .sl g (ints m)] (bo (l == m)) [] := by
  refine contract_of_awp (rs := [4]) Try.func7 rfl Try.ntmps7 (by simp) rfl fun E => ?_
  (repeat (first | refine awp_seq ?_ | refine awp_block ?_ | ((first | refine awp_skip ?_ | refine awp_exit ?_ | refine awp_reg ttok ?_ | (refine awp_draw ttok ?dr_calm ?_; (case dr_calm => decide +kernel)) | refine awp_condM ?_); simp (maxSteps := 4000000) only [↓reduceIte, Nat.reduceLT, Nat.reduceEqDiff, reduceCtorEq, Nat.reduceAdd, Nat.reduceMul, Int.reduceLE, Int.reduceLT, Int.reduceToNat, Nat.reduceLeDiff, Nat.reduceSub, Int.reduceEq, Nat.reduceBEq, evB, tyA]; (repeat (with_reducible refine And.intro ?_ ?_; exact sdX)); (with_reducible first | refine awp_id ?_ | refine id_call ?_ | refine id_and ?_ | refine id_ex ?_ | refine id_all ?_ | refine id_nat ?_ | refine id_le ?_))))
  refine awp_cond (t := ((l.length : Int) != (m.length : Int))) evX (fun h => ?_) (fun h => ?_)
  · (repeat (first | refine awp_seq ?_ | refine awp_block ?_ | ((first | refine awp_skip ?_ | refine awp_exit ?_ | refine awp_reg ttok ?_ | (refine awp_draw ttok ?dr_calm ?_; (case dr_calm => decide +kernel)) | refine awp_condM ?_); simp (maxSteps := 4000000) only [↓reduceIte, Nat.reduceLT, Nat.reduceEqDiff, reduceCtorEq, Nat.reduceAdd, Nat.reduceMul, Int.reduceLE, Int.reduceLT, Int.reduceToNat, Nat.reduceLeDiff, Nat.reduceSub, Int.reduceEq, Nat.reduceBEq, evB, tyA]; (repeat (with_reducible refine And.intro ?_ ?_; exact sdX)); (with_reducible first | refine awp_id ?_ | refine id_call ?_ | refine id_and ?_ | refine id_ex ?_ | refine id_all ?_ | refine id_nat ?_ | refine id_le ?_))))
    have hne : l ≠ m := by rintro rfl; simp at h
    have hv : (l == m) = false := by simpa using hne
    rw [hv]
    exact awp_ret (ends_plain (.inr rfl) rfl evX)
  · have hlm : l.length = m.length := by simp at h; omega
    (repeat (first | refine awp_seq ?_ | refine awp_block ?_ | ((first | refine awp_skip ?_ | refine awp_exit ?_ | refine awp_reg ttok ?_ | (refine awp_draw ttok ?dr_calm ?_; (case dr_calm => decide +kernel)) | refine awp_condM ?_); simp (maxSteps := 4000000) only [↓reduceIte, Nat.reduceLT, Nat.reduceEqDiff, reduceCtorEq, Nat.reduceAdd, Nat.reduceMul, Int.reduceLE, Int.reduceLT, Int.reduceToNat, Nat.reduceLeDiff, Nat.reduceSub, Int.reduceEq, Nat.reduceBEq, evB, tyA]; (repeat (with_reducible refine And.intro ?_ ?_; exact sdX)); (with_reducible first | refine awp_id ?_ | refine id_call ?_ | refine id_and ?_ | refine id_ex ?_ | refine id_all ?_ | refine id_nat ?_ | refine id_le ?_))))
    refine awp_loop (X := Nat) (fun k => mkS 26 [(0, .sl f (ints l)), (1, .sl g (ints m)), (5, i64 k)] []) (fun k => k ≤ l.length ∧ l.take k = m.take k) (fun k => l.length - k) 0 ⟨by omega, by simp⟩ (mkS_le rfl ?_ trivial) ?_
    · simp (maxSteps := 4000000) only [↓reduceIte, Nat.reduceLT, Nat.reduceEqDiff, reduceCtorEq, Nat.reduceAdd, Nat.reduceMul, Int.reduceLE, Int.reduceLT, Int.reduceToNat, Nat.reduceLeDiff, Nat.reduceSub, Int.reduceEq, Nat.reduceBEq, evB]
      rfl
    · intro k ⟨hk, htk⟩
      (repeat (first | refine awp_seq ?_ | refine awp_block ?_ | ((first | refine awp_skip ?_ | refine awp_exit ?_ | refine awp_reg ttok ?_ | (refine awp_draw ttok ?dr_calm ?_; (case dr_calm => decide +kernel)) | refine awp_condM ?_); simp (maxSteps := 4000000) only [↓reduceIte, Nat.reduceLT, Nat.reduceEqDiff, reduceCtorEq, Nat.reduceAdd, Nat.reduceMul, Int.reduceLE, Int.reduceLT, Int.reduceToNat, Nat.reduceLeDiff, Nat.reduceSub, Int.reduceEq, Nat.reduceBEq, evB, tyA]; (repeat (with_reducible refine And.intro ?_ ?_; exact sdX)); (with_reducible first | refine awp_id ?_ | refine id_call ?_ | refine id_and ?_ | refine id_ex ?_ | refine id_all ?_ | refine id_nat ?_ | refine id_le ?_))))
      refine awp_cond (t := decide ((k : Int) < (l.length : Int))) evX (fun h => ?_) (fun h => ?_)
      · simp only [decide_eq_true_eq] at h
        have hk' : k < l.length := by omega
        have g1 := ints_get hk'
        have g2 := ints_get (l := m) (i := k) (by omega)
        have hw : IntKind.i64.wrap ((k : Int) + 1) = ((k + 1 : Nat) : Int) := i64_in (by omega) (by omega)
        (repeat (first | refine awp_seq ?_ | refine awp_block ?_ | ((first | refine awp_skip ?_ | refine awp_exit ?_ | refine awp_reg ttok ?_ | (refine awp_draw ttok ?dr_calm ?_; (case dr_calm => decide +kernel)) | refine awp_condM ?_); simp (maxSteps := 4000000) only [↓reduceIte, Nat.reduceLT, Nat.reduceEqDiff, reduceCtorEq, Nat.reduceAdd, Nat.reduceMul, Int.reduceLE, Int.reduceLT, Int.reduceToNat, Nat.reduceLeDiff, Nat.reduceSub, Int.reduceEq, Nat.reduceBEq, evB, tyA, g1, g2]; (repeat (with_reducible refine And.intro ?_ ?_; exact sdX)); (with_reducible first | refine awp_id ?_ | refine id_call ?_ | refine id_and ?_ | refine id_ex ?_ | refine id_all ?_ | refine id_nat ?_ | refine id_le ?_))))
        refine awp_cond (t := (l.getD k 0 != m.getD k 0)) evX (fun h2 => ?_) (fun h2 => ?_)
        · (repeat (first | refine awp_seq ?_ | refine awp_block ?_ | ((first | refine awp_skip ?_ | refine awp_exit ?_ | refine awp_reg ttok ?_ | (refine awp_draw ttok ?dr_calm ?_; (case dr_calm => decide +kernel)) | refine awp_condM ?_); simp (maxSteps := 4000000) only [↓reduceIte, Nat.reduceLT, Nat.reduceEqDiff, reduceCtorEq, Nat.reduceAdd, Nat.reduceMul, Int.reduceLE, Int.reduceLT, Int.reduceToNat, Nat.reduceLeDiff, Nat.reduceSub, Int.reduceEq, Nat.reduceBEq, evB, tyA]; (repeat (with_reducible refine And.intro ?_ ?_; exact sdX)); (with_reducible first | refine awp_id ?_ | refine id_call ?_ | refine id_and ?_ | refine id_ex ?_ | refine id_all ?_ | refine id_nat ?_ | refine id_le ?_))))
          have hne : l ≠ m := by rintro rfl; simp at h2
          have hv : (l == m) = false := by simpa using hne
          rw [hv]
          exact awp_ret (ends_plain (.inr rfl) rfl evX)
        · (repeat (first | refine awp_seq ?_ | refine awp_block ?_ | ((first | refine awp_skip ?_ | refine awp_exit ?_ | refine awp_reg ttok ?_ | (refine awp_draw ttok ?dr_calm ?_; (case dr_calm => decide +kernel)) | refine awp_condM ?_); simp (maxSteps := 4000000) only [↓reduceIte, Nat.reduceLT, Nat.reduceEqDiff, reduceCtorEq, Nat.reduceAdd, Nat.reduceMul, Int.reduceLE, Int.reduceLT, Int.reduceToNat, Nat.reduceLeDiff, Nat.reduceSub, Int.reduceEq, Nat.reduceBEq, evB, tyA, hw]; (repeat (with_reducible refine And.intro ?_ ?_; exact sdX)); (with_reducible first | refine awp_id ?_ | refine id_call ?_ | refine id_and ?_ | refine id_ex ?_ | refine id_all ?_ | refine id_nat ?_ | refine id_le ?_))))
          refine ⟨k + 1, ⟨by omega, ?_⟩, by omega, mkS_le rfl ?_ trivial⟩
          · have h3 : l.getD k 0 = m.getD k 0 := by simpa using h2
            have e1 : l[k]? = some (l.getD k 0) := by simp [List.getD, List.getElem?_eq_getElem hk']
            have e2 : m[k]? = some (m.getD k 0) := by simp [List.getD, List.getElem?_eq_getElem (show k < m.length by omega)]
            rw [List.take_add_one, List.take_add_one, htk, e1, e2, h3]
          · exact evX
      · simp only [decide_eq_false_iff_not] at h
        have hkl : k = l.length := by omega
        (repeat (first | refine awp_seq ?_ | refine awp_block ?_ | ((first | refine awp_skip ?_ | refine awp_exit ?_ | refine awp_reg ttok ?_ | (refine awp_draw ttok ?dr_calm ?_; (case dr_calm => decide +kernel)) | refine awp_condM ?_); simp (maxSteps := 4000000) only [↓reduceIte, Nat.reduceLT, Nat.reduceEqDiff, reduceCtorEq, Nat.reduceAdd, Nat.reduceMul, Int.reduceLE, Int.reduceLT, Int.reduceToNat, Nat.reduceLeDiff, Nat.reduceSub, Int.reduceEq, Nat.reduceBEq, evB, tyA]; (repeat (with_reducible refine And.intro ?_ ?_; exact sdX)); (with_reducible first | refine awp_id ?_ | refine id_call ?_ | refine id_and ?_ | refine id_ex ?_ | refine id_all ?_ | refine id_nat ?_ | refine id_le ?_))))
        have hv : (l == m) = true := by
          rw [hkl, List.take_of_length_le (by omega), List.take_of_length_le (by omega)] at htk
          simpa using htk
        rw [hv]
        exact awp_ret (ends_plain (.inr rfl) rfl evX)
def sentRow (s : Int × Bool × List Int) : List D := [i64 s.1, .sl s.2.1 (ints s.2.2)]
def sents (l : List (Int × Bool × List Int)) : List (List D) := l.map sentRow
theorem sents_len (l : List (Int × Bool × List Int)) : (sents l).length = l.length := by simp [sents]
theorem sents_get {l : List (Int × Bool × List Int)} {i : Nat} {s : Int × Bool × List Int} (h : l[i]? = some s) : (sents l).getD i [] = [i64 s.1, .sl s.2.1 (ints s.2.2)] := by
  simp [sents, List.getD, h, sentRow]
section
variable (a1 a2 b1 b2 sender taker : Int) (f1 f2 g0 g1 : Bool) (ss bs : List (Int × Bool × List Int)) (at_ tk : List Int)
def wayArgs : List D := [.agg [i64 a1, i64 a2, .sl f1 (sents ss), .sl f2 (ints at_)], .agg [i64 b1, i64 b2, .sl g0 (sents bs), .sl g1 (ints tk)], i64 sender, i64 taker]
set_option maxHeartbeats 8000000 in
theorem c_Way_no5 (h0 : 0 ≤ taker) (hl : taker < (ss.length : Int)) (h3 : 0 ≤ sender) (h : sender < (tk.length : Int)) (cnt : Int) (ff : Bool) (last : List Int) (hs : ss[taker.toNat]? = some (cnt, ff, last)) (n : Int)
    (hn : IntKind.i64.wrap (cnt - tk.getD sender.toNat 0) = n) (hn0 : n < 0) : Contract Try.prog 12 (wayArgs a1 a2 b1 b2 sender taker f1 f2 g0 g1 ss bs at_ tk) (.tup [.sl true [], bo false]) [] := by
  refine contract_of_awp (rs := [8, 9]) Try.func12 rfl Try.ntmps12 (by simp [wayArgs]) rfl fun E => ?_
  unfold wayArgs
  have h1 : decide (taker < 0) = false := by simpa using h0
  have h2 : decide (taker ≥ (ss.length : Int)) = false := by simpa using hl
  have h3' : decide (sender < 0) = false := by simpa using h3
  have h4 : decide (sender ≥ (tk.length : Int)) = false := by simpa using h
  have hr := sents_get hs
  have hg : (ints tk).getD sender.toNat [] = [i64 (tk.getD sender.toNat 0)] := ints_get (by omega)
  have h5 : decide (n < 0) = true := by simpa using hn0
  (repeat (first | refine awp_seq ?_ | refine awp_block ?_ | ((first | refine awp_skip ?_ | refine awp_exit ?_ | refine awp_reg ttok ?_ | (refine awp_draw ttok ?dr_calm ?_; (case dr_calm => decide +kernel)) | refine awp_condM ?_); simp (maxSteps := 4000000) only [↓reduceIte, Nat.reduceLT, Nat.reduceEqDiff, reduceCtorEq, Nat.reduceAdd, Nat.reduceMul, Int.reduceLE, Int.reduceLT, Int.reduceToNat, Nat.reduceLeDiff, Nat.reduceSub, Int.reduceEq, Nat.reduceBEq, evB, tyA, h1, h2, h3', h4, sents_len, ints_len, h0, hl, h3, h, hr, hg, hn, h5]; (repeat (with_reducible refine And.intro ?_ ?_; exact sdX)); (with_reducible first | refine awp_id ?_ | refine id_call ?_ | refine id_and ?_ | refine id_ex ?_ | refine id_all ?_ | refine id_nat ?_ | refine id_le ?_))))
  refine awp_ret (ends_plain (.inr rfl) rfl evX)
set_option maxHeartbeats 8000000 in
theorem c_Way_no6 (h0 : 0 ≤ taker) (hl : taker < (ss.length : Int)) (h3 : 0 ≤ sender) (h : sender < (tk.length : Int)) (cnt : Int) (ff : Bool) (last : List Int) (hs : ss[taker.toNat]? = some (cnt, ff, last)) (n : Int)
    (hn : IntKind.i64.wrap (cnt - tk.getD sender.toNat 0) = n) (hn0 : 0 ≤ n) (hn1 : (last.length : Int) < n) : Contract Try.prog 12 (wayArgs a1 a2 b1 b2 sender taker f1 f2 g0 g1 ss bs at_ tk) (.tup [.sl true [], bo false]) [] := by
  refine contract_of_awp (rs := [8, 9]) Try.func12 rfl Try.ntmps12 (by simp [wayArgs]) rfl fun E => ?_
  unfold wayArgs
  have h1 : decide (taker < 0) = false := by simpa using h0
  have h2 : decide (taker ≥ (ss.length : Int)) = false := by simpa using hl
  have h3' : decide (sender < 0) = false := by simpa using h3
  have h4 : decide (sender ≥ (tk.length : Int)) = false := by simpa using h
  have hr := sents_get hs
  have hg : (ints tk).getD sender.toNat [] = [i64 (tk.getD sender.toNat 0)] := ints_get (by omega)
  have h5 : decide (n < 0) = false := by simpa using hn0
  have h6 : decide (n > (last.length : Int)) = true := by simpa using hn1
  (repeat (first | refine awp_seq ?_ | refine awp_block ?_ | ((first | refine awp_skip ?_ | refine awp_exit ?_ | refine awp_reg ttok ?_ | (refine awp_draw ttok ?dr_calm ?_; (case dr_calm => decide +kernel)) | refine awp_condM ?_); simp (maxSteps := 4000000) only [↓reduceIte, Nat.reduceLT, Nat.reduceEqDiff, reduceCtorEq, Nat.reduceAdd, Nat.reduceMul, Int.reduceLE, Int.reduceLT, Int.reduceToNat, Nat.reduceLeDiff, Nat.reduceSub, Int.reduceEq, Nat.reduceBEq, evB, tyA, h1, h2, h3', h4, sents_len, ints_len, h0, hl, h3, h, hr, hg, hn, h5, h6]; (repeat (with_reducible refine And.intro ?_ ?_; exact sdX)); (with_reducible first | refine awp_id ?_ | refine id_call ?_ | refine id_and ?_ | refine id_ex ?_ | refine id_all ?_ | refine id_nat ?_ | refine id_le ?_))))
  refine awp_ret (ends_plain (.inr rfl) rfl evX)
set_option maxHeartbeats 8000000 in
theorem c_Way_yes (h0 : 0 ≤ taker) (hl : taker < (ss.length : Int)) (h3 : 0 ≤ sender) (h : sender < (tk.length : Int)) (cnt : Int) (ff : Bool) (last : List Int) (hs : ss[taker.toNat]? = some (cnt, ff, last)) (n : Int)
    (hn : cnt - tk.getD sender.toNat 0 = n) (hn0 : 0 ≤ n) (hn1 : n ≤ last.length) (hlast : last.length * 8 ≤ 140737488355328) : Contract Try.prog 12 (wayArgs a1 a2 b1 b2 sender taker f1 f2 g0 g1 ss bs at_ tk) (.tup [.own 0 0 n.toNat, bo true]) [{ sz := 1, rows := ints (last.drop (last.length - n.toNat)) }] := by
  refine contract_of_awp (rs := [8, 9]) Try.func12 rfl Try.ntmps12 (by simp [wayArgs]) rfl fun E => ?_
  unfold wayArgs
  have h1 : decide (taker < 0) = false := by simpa using h0
  have h2 : decide (taker ≥ (ss.length : Int)) = false := by simpa using hl
  have h3' : decide (sender < 0) = false := by simpa using h3
  have h4 : decide (sender ≥ (tk.length : Int)) = false := by simpa using h
  have hr := sents_get hs
  have hw : IntKind.i64.wrap (cnt - tk.getD sender.toNat 0) = n := by rw [hn]; exact i64_in (by omega) (by omega)
  have h5 : decide (n < 0) = false := by simpa using hn0
  have h6 : decide (n > (last.length : Int)) = false := by simpa using hn1
  have hg : (ints tk).getD sender.toNat [] = [i64 (tk.getD sender.toNat 0)] := ints_get (by omega)
  have hm : IntKind.i64.wrap ((last.length : Int) - n) = ((last.length - n.toNat : Nat) : Int) := by
    rw [i64_in (by omega) (by omega)]; omega
  have k0 : (0 : Int) ≤ ((last.length - n.toNat : Nat) : Int) := by omega
  have k1 : ((last.length - n.toNat : Nat) : Int) ≤ (last.length : Int) := by omega
  have ht : List.take (last.length - (last.length - n.toNat)) (List.drop (last.length - n.toNat) last) = List.drop (last.length - n.toNat) last := List.take_of_length_le (by simp)
  (repeat (first | refine awp_seq ?_ | refine awp_block ?_ | ((first | refine awp_skip ?_ | refine awp_exit ?_ | refine awp_reg ttok ?_ | (refine awp_draw ttok ?dr_calm ?_; (case dr_calm => decide +kernel)) | refine awp_condM ?_); simp (maxSteps := 4000000) only [↓reduceIte, Nat.reduceLT, Nat.reduceEqDiff, reduceCtorEq, Nat.reduceAdd, Nat.reduceMul, Int.reduceLE, Int.reduceLT, Int.reduceToNat, Nat.reduceLeDiff, Nat.reduceSub, Int.reduceEq, Nat.reduceBEq, evB, tyA, h1, h2, h3', h4, sents_len, ints_len, h0, hl, h3, h, hr, hg, hw, h5, h6, hm, k0, k1, Int.le_refl, ht]; (repeat (with_reducible refine And.intro ?_ ?_; exact sdX)); (with_reducible first | refine awp_id ?_ | refine id_call ?_ | refine id_and ?_ | refine id_ex ?_ | refine id_all ?_ | refine id_nat ?_ | refine id_le ?_))))
  have hlen : (last.drop (last.length - n.toNat)).length = n.toNat := by simp; omega
  refine callVC_mk fnok15 (c_CloneI _ _ (by omega)) rfl ?_
  simp (maxSteps := 4000000) only [↓reduceIte, Nat.reduceLT, Nat.reduceEqDiff, reduceCtorEq, Nat.reduceAdd, Nat.reduceMul, Int.reduceLE, Int.reduceLT, Int.reduceToNat, Nat.reduceLeDiff, Nat.reduceSub, Int.reduceEq, Nat.reduceBEq, evB, tyA, hlen]
  (repeat (first | refine awp_seq ?_ | refine awp_block ?_ | ((first | refine awp_skip ?_ | refine awp_exit ?_ | refine awp_reg ttok ?_ | (refine awp_draw ttok ?dr_calm ?_; (case dr_calm => decide +kernel)) | refine awp_condM ?_); simp (maxSteps := 4000000) only [↓reduceIte, Nat.reduceLT, Nat.reduceEqDiff, reduceCtorEq, Nat.reduceAdd, Nat.reduceMul, Int.reduceLE, Int.reduceLT, Int.reduceToNat, Nat.reduceLeDiff, Nat.reduceSub, Int.reduceEq, Nat.reduceBEq, evB, tyA, hlen]; (repeat (with_reducible refine And.intro ?_ ?_; exact sdX)); (with_reducible first | refine awp_id ?_ | refine id_call ?_ | refine id_and ?_ | refine id_ex ?_ | refine id_all ?_ | refine id_nat ?_ | refine id_le ?_))))
  refine awp_ret (ends_own2 (g := 108008) (.inr rfl) rfl (by simp (maxSteps := 4000000) only [↓reduceIte, Nat.reduceLT, Nat.reduceEqDiff, reduceCtorEq, Nat.reduceAdd, Nat.reduceMul, Int.reduceLE, Int.reduceLT, Int.reduceToNat, Nat.reduceLeDiff, Nat.reduceSub, Int.reduceEq, Nat.reduceBEq, evB, hlen]) evX rfl)
end
def iss (l : List (Bool × List Int)) : List (List D) := l.map fun b => [.sl b.1 (ints b.2)]
theorem iss_len (l : List (Bool × List Int)) : (iss l).length = l.length := by simp [iss]
theorem iss_row (l : List (Bool × List Int)) : (∀ row ∈ iss l, row.length = 1) = True := by
  simp only [iss, List.mem_map, eq_iff_iff, iff_true]
  rintro row ⟨x, _, rfl⟩; rfl
theorem iss_get {l : List (Bool × List Int)} {i : Nat} (h : i < l.length) : (iss l).getD i [] = [.sl (l.getD i (true, [])).1 (ints (l.getD i (true, [])).2)] := by
  simp [iss, List.getD, List.getElem?_eq_getElem h]
theorem iss_set (l : List (Bool × List Int)) (i : Nat) (f : Bool) (b : List Int) : (iss l).set i [.sl f (ints b)] = iss (l.set i (f, b)) := by simp [iss, List.map_set]
theorem iss_take (l : List (Bool × List Int)) (k : Nat) : (iss l).take k = iss (l.take k) := by simp [iss]
theorem iss_nil (l : List (Bool × List Int)) : (iss l = []) = (l = []) := by simp [iss]
theorem iss_ex (l : List (Bool × List Int)) : (l = [] ∨ ∃ row, row ∈ iss l ∧ row.length = 1) = True := by
  cases l with
  | nil => simp
  | cons a m => simp [iss]
def nob (n : Nat) : List (Bool × List Int) := List.replicate n (true, [])
theorem nob_rows (n : Nat) : List.replicate n [D.sl true []] = iss (nob n) := by simp [nob, iss, ints]
theorem nob_rows' (n : Nat) : List.replicate n (List.map ofAtom (Value.slice none 0 0).cells.toList) = iss (nob n) := nob_rows n
set_option maxHeartbeats 1600000 in
theorem c_CloneS (full : Bool) (l : List (Bool × List Int)) (hl : l.length ≤ 100000) : Contract Try.prog 17 [.sl full (iss l)] (.own 0 0 l.length) [{ sz := 1, rows := iss l }] := by
  refine contract_of_awp (rs := [2]) Try.func17 rfl Try.ntmps17 (by simp) rfl fun E => ?_
  (repeat (first | refine awp_seq ?_ | refine awp_block ?_ | ((first | refine awp_skip ?_ | refine awp_exit ?_ | refine awp_reg ttok ?_ | (refine awp_draw ttok ?dr_calm ?_; (case dr_calm => decide +kernel)) | refine awp_condM ?_); simp (maxSteps := 4000000) only [↓reduceIte, Nat.reduceLT, Nat.reduceEqDiff, reduceCtorEq, Nat.reduceAdd, Nat.reduceMul, Int.reduceLE, Int.reduceLT, Int.reduceToNat, Nat.reduceLeDiff, Nat.reduceSub, Int.reduceEq, Nat.reduceBEq, evB, tyA, iss_len, iss_nil, iss_ex]; (repeat (with_reducible refine And.intro ?_ ?_; exact sdX)); (with_reducible first | refine awp_id ?_ | refine id_call ?_ | refine id_and ?_ | refine id_ex ?_ | refine id_all ?_ | refine id_nat ?_ | refine id_le ?_))))
  intro b hb
  refine awp_cond (t := (b != false)) ?_ (fun h => ?_) (fun h => ?_)
  · exact evX
  · have hl0 : l = [] := by
      have := hb (by simpa using h)
      simpa [iss] using this
    subst hl0
    (repeat (first | refine awp_seq ?_ | refine awp_block ?_ | ((first | refine awp_skip ?_ | refine awp_exit ?_ | refine awp_reg ttok ?_ | (refine awp_draw ttok ?dr_calm ?_; (case dr_calm => decide +kernel)) | refine awp_condM ?_); simp (maxSteps := 4000000) only [↓reduceIte, Nat.reduceLT, Nat.reduceEqDiff, reduceCtorEq, Nat.reduceAdd, Nat.reduceMul, Int.reduceLE, Int.reduceLT, Int.reduceToNat, Nat.reduceLeDiff, Nat.reduceSub, Int.reduceEq, Nat.reduceBEq, evB, tyA]; (repeat (with_reducible refine And.intro ?_ ?_; exact sdX)); (with_reducible first | refine awp_id ?_ | refine id_call ?_ | refine id_and ?_ | refine id_ex ?_ | refine id_all ?_ | refine id_nat ?_ | refine id_le ?_))))
    refine awp_own_nil 2 9000 1 ?_ (by decide) (awp_ret ?_)
    · exact evX
    · exact ends_own (g := 9000) (.inr rfl) (by simp (maxSteps := 4000000) only [↓reduceIte, Nat.reduceLT, Nat.reduceEqDiff, reduceCtorEq, Nat.reduceAdd, Nat.reduceMul, Int.reduceLE, Int.reduceLT, Int.reduceToNat, Nat.reduceLeDiff, Nat.reduceSub, Int.reduceEq, Nat.reduceBEq, evB, St.toOwn]) (by simp (maxSteps := 4000000) only [↓reduceIte, Nat.reduceLT, Nat.reduceEqDiff, reduceCtorEq, Nat.reduceAdd, Nat.reduceMul, Int.reduceLE, Int.reduceLT, Int.reduceToNat, Nat.reduceLeDiff, Nat.reduceSub, Int.reduceEq, Nat.reduceBEq, evB, St.toOwn, iss]) rfl
  · (repeat (first | refine awp_seq ?_ | refine awp_block ?_ | ((first | refine awp_skip ?_ | refine awp_exit ?_ | refine awp_reg ttok ?_ | (refine awp_draw ttok ?dr_calm ?_; (case dr_calm => decide +kernel)) | refine awp_condM ?_); simp (maxSteps := 4000000) only [↓reduceIte, Nat.reduceLT, Nat.reduceEqDiff, reduceCtorEq, Nat.reduceAdd, Nat.reduceMul, Int.reduceLE, Int.reduceLT, Int.reduceToNat, Nat.reduceLeDiff, Nat.reduceSub, Int.reduceEq, Nat.reduceBEq, evB, tyA, iss_len, iss_row]; (repeat (with_reducible refine And.intro ?_ ?_; exact sdX)); (with_reducible first | refine awp_id ?_ | refine id_call ?_ | refine id_and ?_ | refine id_ex ?_ | refine id_all ?_ | refine id_nat ?_ | refine id_le ?_))))
    exact awp_ret (ends_own (g := 4000) (.inr rfl) (by simp (maxSteps := 4000000) only [↓reduceIte, Nat.reduceLT, Nat.reduceEqDiff, reduceCtorEq, Nat.reduceAdd, Nat.reduceMul, Int.reduceLE, Int.reduceLT, Int.reduceToNat, Nat.reduceLeDiff, Nat.reduceSub, Int.reduceEq, Nat.reduceBEq, evB, iss_len]) evX rfl)
theorem c_New (p r : Int) (n q : Nat) (hn : n = min p.toNat 16) (hq : q = min (max r.toNat 1) 8) : Contract Try.prog 11 [i64 p, i64 r] (.agg [i64 n, i64 q, .own 0 0 (n * n)]) [{ sz := 1, rows := iss (nob (n * n)) }] := by
  refine contract_of_awpV (rs := [.cell 4 35]) ttok Try.func11 rfl Try.ntmps11 (by simp) rfl fun E => ?_
  have hmax : (if (0 : Int) > p then (0 : Int) else p) = (p.toNat : Int) := by split <;> omega
  have hmin : (if (16 : Int) < (p.toNat : Int) then (16 : Int) else (p.toNat : Int)) = (n : Int) := by omega
  have hmax2 : (if (1 : Int) > r then (1 : Int) else r) = ((max r.toNat 1 : Nat) : Int) := by omega
  have hmin2 : (if (8 : Int) < ((max r.toNat 1 : Nat) : Int) then (8 : Int) else ((max r.toNat 1 : Nat) : Int)) = (q : Int) := by omega
  have hn16 : n ≤ 16 := by omega
  have hnn : n * n ≤ 256 := Nat.mul_le_mul hn16 hn16
  have hw : IntKind.i64.wrap ((n : Int) * (n : Int)) = ((n * n : Nat) : Int) := by
    have e : (n : Int) * (n : Int) = ((n * n : Nat) : Int) := by simp
    rw [e]; exact i64_in (by omega) (by omega)
  generalize n * n = N at *
  (repeat (first | refine awp_seq ?_ | refine awp_block ?_ | ((first | refine awp_skip ?_ | refine awp_exit ?_ | refine awp_reg ttok ?_ | (refine awp_draw ttok ?dr_calm ?_; (case dr_calm => decide +kernel)) | refine awp_condM ?_); simp (maxSteps := 4000000) only [↓reduceIte, Nat.reduceLT, Nat.reduceEqDiff, reduceCtorEq, Nat.reduceAdd, Nat.reduceMul, Int.reduceLE, Int.reduceLT, Int.reduceToNat, Nat.reduceLeDiff, Nat.reduceSub, Int.reduceEq, Nat.reduceBEq, evB, tyA, hmax, hmin, hmax2, hmin2, hw, nob_rows']; (repeat (with_reducible refine And.intro ?_ ?_; exact sdX)); (with_reducible first | refine awp_id ?_ | refine id_call ?_ | refine id_and ?_ | refine id_ex ?_ | refine id_all ?_ | refine id_nat ?_ | refine id_le ?_))))
  exact awp_ret (endsV [3007] (.inr rfl) (by simp (maxSteps := 4000000) only [↓reduceIte, Nat.reduceLT, Nat.reduceEqDiff, reduceCtorEq, Nat.reduceAdd, Nat.reduceMul, Int.reduceLE, Int.reduceLT, Int.reduceToNat, Nat.reduceLeDiff, Nat.reduceSub, Int.reduceEq, Nat.reduceBEq, evB, tyA]; rfl) (by simp (maxSteps := 4000000) only [↓reduceIte, Nat.reduceLT, Nat.reduceEqDiff, reduceCtorEq, Nat.reduceAdd, Nat.reduceMul, Int.reduceLE, Int.reduceLT, Int.reduceToNat, Nat.reduceLeDiff, Nat.reduceSub, Int.reduceEq, Nat.reduceBEq, evB, nob_rows']; try rfl))
theorem c_at (f : Bool) (bx : List (Bool × List Int)) (p r : Nat) (a b : Nat) (hp : p ≤ 16) (ha : a < p) (hb : b < p) : Contract Try.prog 14 [.agg [i64 p, i64 r, .sl f (iss bx)], i64 a, i64 b] (i64 (a * p + b : Nat)) [] := by
  refine contract_of_awp (rs := [6]) Try.func14 rfl Try.ntmps14 (by simp) rfl fun E => ?_
  have d1 : decide ((a : Int) < 0) = false := by simp
  have d2 : decide ((a : Int) ≥ (p : Int)) = false := by simp; omega
  have d3 : decide ((b : Int) < 0) = false := by simp
  have d4 : decide ((b : Int) ≥ (p : Int)) = false := by simp; omega
  have hap : a * p ≤ 16 * 16 := Nat.mul_le_mul (by omega) hp
  have e : (a : Int) * (p : Int) = ((a * p : Nat) : Int) := by simp
  have hw : IntKind.i64.wrap ((a : Int) * (p : Int)) = ((a * p : Nat) : Int) := by rw [e]; exact i64_in (by omega) (by omega)
  have hw2 : IntKind.i64.wrap (((a * p : Nat) : Int) + (b : Int)) = ((a * p + b : Nat) : Int) := by rw [i64_in (by omega) (by omega)]; omega
  (repeat (first | refine awp_seq ?_ | refine awp_block ?_ | ((first | refine awp_skip ?_ | refine awp_exit ?_ | refine awp_reg ttok ?_ | (refine awp_draw ttok ?dr_calm ?_; (case dr_calm => decide +kernel)) | refine awp_condM ?_); simp (maxSteps := 4000000) only [↓reduceIte, Nat.reduceLT, Nat.reduceEqDiff, reduceCtorEq, Nat.reduceAdd, Nat.reduceMul, Int.reduceLE, Int.reduceLT, Int.reduceToNat, Nat.reduceLeDiff, Nat.reduceSub, Int.reduceEq, Nat.reduceBEq, evB, tyA, d1, d2, d3, d4, hw, hw2]; (repeat (with_reducible refine And.intro ?_ ?_; exact sdX)); (with_reducible first | refine awp_id ?_ | refine id_call ?_ | refine id_and ?_ | refine id_ex ?_ | refine id_all ?_ | refine id_nat ?_ | refine id_le ?_))))
  exact awp_ret (ends_plain (.inr rfl) rfl evX)
set_option maxHeartbeats 4000000 in
theorem c_with (f g : Bool) (bx : List (Bool × List Int)) (p r : Nat) (i n : Nat) (b : List Int) (hn : bx.length = n) (hn2 : n ≤ 256) (hi : i < n) : Contract Try.prog 16 [.agg [i64 p, i64 r, .sl f (iss bx)], i64 i, .sl g (ints b)] (.agg [i64 p, i64 r, .own 0 0 n]) [{ sz := 1, rows := iss (bx.set i (g, b)) }] := by
  refine contract_of_awpV (rs := [.cell 6 35]) ttok Try.func16 rfl Try.ntmps16 (by simp) rfl fun E => ?_
  have hc := c_CloneS f bx (by omega)
  rw [hn] at hc
  have gi := iss_get (l := bx) (i := i) (by omega)
  (repeat (first | refine awp_seq ?_ | refine awp_block ?_ | ((first | refine awp_skip ?_ | refine awp_exit ?_ | refine awp_reg ttok ?_ | (refine awp_draw ttok ?dr_calm ?_; (case dr_calm => decide +kernel)) | refine awp_condM ?_); simp (maxSteps := 4000000) only [↓reduceIte, Nat.reduceLT, Nat.reduceEqDiff, reduceCtorEq, Nat.reduceAdd, Nat.reduceMul, Int.reduceLE, Int.reduceLT, Int.reduceToNat, Nat.reduceLeDiff, Nat.reduceSub, Int.reduceEq, Nat.reduceBEq, evB, tyA]; (repeat (with_reducible refine And.intro ?_ ?_; exact sdX)); (with_reducible first | refine awp_id ?_ | refine id_call ?_ | refine id_and ?_ | refine id_ex ?_ | refine id_all ?_ | refine id_nat ?_ | refine id_le ?_))))
  refine callVC_mk fnok17 hc rfl ?_
  simp (maxSteps := 4000000) only [↓reduceIte, Nat.reduceLT, Nat.reduceEqDiff, reduceCtorEq, Nat.reduceAdd, Nat.reduceMul, Int.reduceLE, Int.reduceLT, Int.reduceToNat, Nat.reduceLeDiff, Nat.reduceSub, Int.reduceEq, Nat.reduceBEq, evB, tyA]
  (repeat (with_reducible refine And.intro ?_ ?_; exact sdX))
  (repeat (first | refine awp_seq ?_ | refine awp_block ?_ | ((first | refine awp_skip ?_ | refine awp_exit ?_ | refine awp_reg ttok ?_ | (refine awp_draw ttok ?dr_calm ?_; (case dr_calm => decide +kernel)) | refine awp_condM ?_); simp (maxSteps := 4000000) only [↓reduceIte, Nat.reduceLT, Nat.reduceEqDiff, reduceCtorEq, Nat.reduceAdd, Nat.reduceMul, Int.reduceLE, Int.reduceLT, Int.reduceToNat, Nat.reduceLeDiff, Nat.reduceSub, Int.reduceEq, Nat.reduceBEq, evB, tyA, gi, iss_set, iss_len, hn]; (repeat (with_reducible refine And.intro ?_ ?_; exact sdX)); (with_reducible first | refine awp_id ?_ | refine id_call ?_ | refine id_and ?_ | refine id_ex ?_ | refine id_all ?_ | refine id_nat ?_ | refine id_le ?_))))
  exact awp_ret (endsV [102002] (.inr rfl) (by simp (maxSteps := 4000000) only [↓reduceIte, Nat.reduceLT, Nat.reduceEqDiff, reduceCtorEq, Nat.reduceAdd, Nat.reduceMul, Int.reduceLE, Int.reduceLT, Int.reduceToNat, Nat.reduceLeDiff, Nat.reduceSub, Int.reduceEq, Nat.reduceBEq, evB, tyA]; rfl) (by simp (maxSteps := 4000000) only [↓reduceIte, Nat.reduceLT, Nat.reduceEqDiff, reduceCtorEq, Nat.reduceAdd, Nat.reduceMul, Int.reduceLE, Int.reduceLT, Int.reduceToNat, Nat.reduceLeDiff, Nat.reduceSub, Int.reduceEq, Nat.reduceBEq, evB]; try rfl))
def boxAt (bx : List (Bool × List Int)) (i : Nat) : Bool × List Int := bx.getD i (true, [])
set_option maxHeartbeats 4000000 in
theorem c_PutYes (f : Bool) (bx : List (Bool × List Int)) (p r : Nat) (a b i n : Nat) (x : Int) (c : Bool × List Int) (hp : p ≤ 16) (ha : a < p) (hb : b < p) (hi : a * p + b = i) (hn : bx.length = n) (hpp : n = p * p) (hc : boxAt bx i = c) (hr : c.2.length < r) (hr8 : r ≤ 8) :
    Contract Try.prog 13 [.agg [i64 p, i64 r, .sl f (iss bx)], i64 a, i64 b, i64 x] (.tup [.agg [i64 p, i64 r, .own 0 0 n], bo true]) [{ sz := 1, rows := iss (bx.set i (false, c.2 ++ [x])) }] := by
  refine contract_of_awpV (rs := [.cell 8 35, .tmp 9]) ttok Try.func13 rfl Try.ntmps13 (by simp) rfl fun E => ?_
  have hpp2 : p * p ≤ 16 * 16 := Nat.mul_le_mul hp hp
  have hin : i < n := by
    rw [hpp, ← hi]
    have : (a + 1) * p ≤ p * p := Nat.mul_le_mul (by omega) (Nat.le_refl _)
    rw [Nat.add_mul, Nat.one_mul] at this; omega
  have gi := iss_get (l := bx) (i := i) (by omega)
  unfold boxAt at hc
  rw [hc] at gi
  obtain ⟨cf, cl⟩ := c
  simp only at gi hr
  have d1 : decide ((i : Int) < 0) = false := by simp
  have d2 : decide ((cl.length : Int) ≥ (r : Int)) = false := by simp; omega
  have hca := c_at f bx p r a b hp ha hb
  rw [hi] at hca
  have hlen : (cl ++ [x]).length = cl.length + 1 := by simp
  have hct : List.take (cl.length + 1) (cl ++ [x]) = cl ++ [x] := List.take_of_length_le (by omega)
  have hw := c_with f false bx p r i n (cl ++ [x]) hn (by omega) hin
  (repeat (first | refine awp_seq ?_ | refine awp_block ?_ | ((first | refine awp_skip ?_ | refine awp_exit ?_ | refine awp_reg ttok ?_ | (refine awp_draw ttok ?dr_calm ?_; (case dr_calm => decide +kernel)) | refine awp_condM ?_); simp (maxSteps := 4000000) only [↓reduceIte, Nat.reduceLT, Nat.reduceEqDiff, reduceCtorEq, Nat.reduceAdd, Nat.reduceMul, Int.reduceLE, Int.reduceLT, Int.reduceToNat, Nat.reduceLeDiff, Nat.reduceSub, Int.reduceEq, Nat.reduceBEq, evB, tyA]; (repeat (with_reducible refine And.intro ?_ ?_; exact sdX)); (with_reducible first | refine awp_id ?_ | refine id_call ?_ | refine id_and ?_ | refine id_ex ?_ | refine id_all ?_ | refine id_nat ?_ | refine id_le ?_))))
  refine callVC_scal fnok14 hca rfl ?_
  simp (maxSteps := 4000000) only [↓reduceIte, Nat.reduceLT, Nat.reduceEqDiff, reduceCtorEq, Nat.reduceAdd, Nat.reduceMul, Int.reduceLE, Int.reduceLT, Int.reduceToNat, Nat.reduceLeDiff, Nat.reduceSub, Int.reduceEq, Nat.reduceBEq, evB, tyA]
  (repeat (with_reducible refine And.intro ?_ ?_; exact sdX))
  (repeat (first | refine awp_seq ?_ | refine awp_block ?_ | ((first | refine awp_skip ?_ | refine awp_exit ?_ | refine awp_reg ttok ?_ | (refine awp_draw ttok ?dr_calm ?_; (case dr_calm => decide +kernel)) | refine awp_condM ?_); simp (maxSteps := 4000000) only [↓reduceIte, Nat.reduceLT, Nat.reduceEqDiff, reduceCtorEq, Nat.reduceAdd, Nat.reduceMul, Int.reduceLE, Int.reduceLT, Int.reduceToNat, Nat.reduceLeDiff, Nat.reduceSub, Int.reduceEq, Nat.reduceBEq, evB, tyA, d1, gi, iss_len, hn, d2]; (repeat (with_reducible refine And.intro ?_ ?_; exact sdX)); (with_reducible first | refine awp_id ?_ | refine id_call ?_ | refine id_and ?_ | refine id_ex ?_ | refine id_all ?_ | refine id_nat ?_ | refine id_le ?_))))
  have hcl := c_CloneI cf cl (by omega)
  refine awp_drawS ttok (mkS 41 [(8, .ptr 1001 0 0), (9, bo true)] [(1001, { sz := 3, rows := [[i64 p, i64 r, .own 105011 0 n]], flat := false }), (105011, { sz := 1, rows := iss (bx.set i (false, cl ++ [x])) })]) (.nd 7 9 .lf .lf) [((0, none) :: (1, none) :: (2, none) :: (3, none) :: (4, none) :: (5, none) :: (6, none) :: (8, none) :: (9, some [0, 1, 2, 3, 4, 5, 6]) :: (7, some [0, 1]) :: (10, some [0, 1]) :: (11, some []) :: (12, some []) :: (13, none) :: []), ((0, none) :: (1, none) :: (2, none) :: (3, none) :: (4, none) :: (5, none) :: (6, none) :: (8, none) :: (7, some [0, 1, 8]) :: (9, some [0, 1]) :: (10, some [0, 1]) :: (11, some []) :: (12, some []) :: (13, none) :: [])] [0, 1, 2, 3, 4, 5, 6, 8, 7, 9, 10, 11, 12, 13] [] [] (by decide +kernel) ?_ (fun O hO => ?_)
  · (repeat (first | refine awp_seq ?_ | refine awp_block ?_ | ((first | refine awp_skip ?_ | refine awp_exit ?_ | refine awp_reg ttok ?_ | (refine awp_draw ttok ?dr_calm ?_; (case dr_calm => decide +kernel)) | refine awp_condM ?_); simp (maxSteps := 4000000) only [↓reduceIte, Nat.reduceLT, Nat.reduceEqDiff, reduceCtorEq, Nat.reduceAdd, Nat.reduceMul, Int.reduceLE, Int.reduceLT, Int.reduceToNat, Nat.reduceLeDiff, Nat.reduceSub, Int.reduceEq, Nat.reduceBEq, evB, tyA]; (repeat (with_reducible refine And.intro ?_ ?_; exact sdX)); (with_reducible first | refine awp_id ?_ | refine id_call ?_ | refine id_and ?_ | refine id_ex ?_ | refine id_all ?_ | refine id_nat ?_ | refine id_le ?_))))
    exact awp_ret (endsV [105011] (.inr rfl) (by simp (maxSteps := 4000000) only [↓reduceIte, Nat.reduceLT, Nat.reduceEqDiff, reduceCtorEq, Nat.reduceAdd, Nat.reduceMul, Int.reduceLE, Int.reduceLT, Int.reduceToNat, Nat.reduceLeDiff, Nat.reduceSub, Int.reduceEq, Nat.reduceBEq, evB, tyA]; rfl) (by simp (maxSteps := 4000000) only [↓reduceIte, Nat.reduceLT, Nat.reduceEqDiff, reduceCtorEq, Nat.reduceAdd, Nat.reduceMul, Int.reduceLE, Int.reduceLT, Int.reduceToNat, Nat.reduceLeDiff, Nat.reduceSub, Int.reduceEq, Nat.reduceBEq, evB]; try rfl))
  · simp only [OpsAre, Nat.reduceAdd, and_true] at hO
    simp only [aopsS_cons, aopsS_nil, and_true]
    refine ⟨?_, ?_⟩
    all_goals
      simp (maxSteps := 4000000) only [↓reduceIte, Nat.reduceLT, Nat.reduceEqDiff, reduceCtorEq, Nat.reduceAdd, Nat.reduceMul, Int.reduceLE, Int.reduceLT, Int.reduceToNat, Nat.reduceLeDiff, Nat.reduceSub, Int.reduceEq, Nat.reduceBEq, evB, tyA, hO, gi, iss_len, hn]; (repeat (with_reducible refine And.intro ?_ ?_; exact sdX))
      refine callVC_mk fnok15 hcl rfl ?_
      simp (maxSteps := 4000000) only [↓reduceIte, Nat.reduceLT, Nat.reduceEqDiff, reduceCtorEq, Nat.reduceAdd, Nat.reduceMul, Int.reduceLE, Int.reduceLT, Int.reduceToNat, Nat.reduceLeDiff, Nat.reduceSub, Int.reduceEq, Nat.reduceBEq, evB, tyA, hO, gi, iss_len, hn, hlen, hct, List.take_length, ints_one, ints_app]
      (repeat (with_reducible refine And.intro ?_ ?_; exact sdX))
      refine callVC_mk fnok16 hw rfl ?_
      simp (maxSteps := 4000000) only [↓reduceIte, Nat.reduceLT, Nat.reduceEqDiff, reduceCtorEq, Nat.reduceAdd, Nat.reduceMul, Int.reduceLE, Int.reduceLT, Int.reduceToNat, Nat.reduceLeDiff, Nat.reduceSub, Int.reduceEq, Nat.reduceBEq, evB, tyA, hO, gi, iss_len, hn, hlen, hct]
      (repeat (with_reducible refine And.intro ?_ ?_; exact sdX))
      refine mkS_le rfl ?_ ?_
      · exact evX
      · exact evX
theorem box_in {p a b i n : Nat} (ha : a < p) (hb : b < p) (hi : a * p + b = i) (hpp : n = p * p) : i < n := by
  rw [hpp, ← hi]
  have : (a + 1) * p ≤ p * p := Nat.mul_le_mul (by omega) (Nat.le_refl _)
  rw [Nat.add_mul, Nat.one_mul] at this; omega
set_option maxHeartbeats 4000000 in
theorem c_PutFull (f : Bool) (bx : List (Bool × List Int)) (p r : Nat) (a b i n : Nat) (x : Int) (c : Bool × List Int) (hp : p ≤ 16) (ha : a < p) (hb : b < p) (hi : a * p + b = i) (hn : bx.length = n) (hpp : n = p * p) (hc : boxAt bx i = c) (hr : r ≤ c.2.length) :
    Contract Try.prog 13 [.agg [i64 p, i64 r, .sl f (iss bx)], i64 a, i64 b, i64 x] (.tup [.agg [i64 p, i64 r, .sl f (iss bx)], bo false]) [] := by
  refine contract_of_awpV (rs := [.cell 8 35, .tmp 9]) ttok Try.func13 rfl Try.ntmps13 (by simp) rfl fun E => ?_
  have hin := box_in ha hb hi hpp
  have gi := iss_get (l := bx) (i := i) (by omega)
  unfold boxAt at hc
  rw [hc] at gi
  obtain ⟨cf, cl⟩ := c
  simp only at gi hr
  have d1 : decide ((i : Int) < 0) = false := by simp
  have d2 : decide ((cl.length : Int) ≥ (r : Int)) = true := by simp; omega
  have hca := c_at f bx p r a b hp ha hb
  rw [hi] at hca
  (repeat (first | refine awp_seq ?_ | refine awp_block ?_ | ((first | refine awp_skip ?_ | refine awp_exit ?_ | refine awp_reg ttok ?_ | (refine awp_draw ttok ?dr_calm ?_; (case dr_calm => decide +kernel)) | refine awp_condM ?_); simp (maxSteps := 4000000) only [↓reduceIte, Nat.reduceLT, Nat.reduceEqDiff, reduceCtorEq, Nat.reduceAdd, Nat.reduceMul, Int.reduceLE, Int.reduceLT, Int.reduceToNat, Nat.reduceLeDiff, Nat.reduceSub, Int.reduceEq, Nat.reduceBEq, evB, tyA]; (repeat (with_reducible refine And.intro ?_ ?_; exact sdX)); (with_reducible first | refine awp_id ?_ | refine id_call ?_ | refine id_and ?_ | refine id_ex ?_ | refine id_all ?_ | refine id_nat ?_ | refine id_le ?_))))
  refine callVC_scal fnok14 hca rfl ?_
  simp (maxSteps := 4000000) only [↓reduceIte, Nat.reduceLT, Nat.reduceEqDiff, reduceCtorEq, Nat.reduceAdd, Nat.reduceMul, Int.reduceLE, Int.reduceLT, Int.reduceToNat, Nat.reduceLeDiff, Nat.reduceSub, Int.reduceEq, Nat.reduceBEq, evB, tyA]
  (repeat (with_reducible refine And.intro ?_ ?_; exact sdX))
  (repeat (first | refine awp_seq ?_ | refine awp_block ?_ | ((first | refine awp_skip ?_ | refine awp_exit ?_ | refine awp_reg ttok ?_ | (refine awp_draw ttok ?dr_calm ?_; (case dr_calm => decide +kernel)) | refine awp_condM ?_); simp (maxSteps := 4000000) only [↓reduceIte, Nat.reduceLT, Nat.reduceEqDiff, reduceCtorEq, Nat.reduceAdd, Nat.reduceMul, Int.reduceLE, Int.reduceLT, Int.reduceToNat, Nat.reduceLeDiff, Nat.reduceSub, Int.reduceEq, Nat.reduceBEq, evB, tyA, d1, gi, iss_len, hn, d2]; (repeat (with_reducible refine And.intro ?_ ?_; exact sdX)); (with_reducible first | refine awp_id ?_ | refine id_call ?_ | refine id_and ?_ | refine id_ex ?_ | refine id_all ?_ | refine id_nat ?_ | refine id_le ?_))))
  exact awp_ret (endsV [] (.inr rfl) (by simp (maxSteps := 4000000) only [↓reduceIte, Nat.reduceLT, Nat.reduceEqDiff, reduceCtorEq, Nat.reduceAdd, Nat.reduceMul, Int.reduceLE, Int.reduceLT, Int.reduceToNat, Nat.reduceLeDiff, Nat.reduceSub, Int.reduceEq, Nat.reduceBEq, evB, tyA]; rfl) trivial)
set_option maxHeartbeats 4000000 in
theorem c_Box (f : Bool) (bx : List (Bool × List Int)) (p r : Nat) (a b i n : Nat) (c : Bool × List Int) (hp : p ≤ 16) (ha : a < p) (hb : b < p) (hi : a * p + b = i) (hn : bx.length = n) (hpp : n = p * p) (hc : boxAt bx i = c) (hl : c.2.length ≤ 100000) :
    Contract Try.prog 9 [.agg [i64 p, i64 r, .sl f (iss bx)], i64 a, i64 b] (.own 0 0 c.2.length) [{ sz := 1, rows := ints c.2 }] := by
  refine contract_of_awp (rs := [6]) Try.func9 rfl Try.ntmps9 (by simp) rfl fun E => ?_
  have hin := box_in ha hb hi hpp
  have gi := iss_get (l := bx) (i := i) (by omega)
  unfold boxAt at hc
  rw [hc] at gi
  obtain ⟨cf, cl⟩ := c
  simp only at gi hl ⊢
  have d1 : decide ((i : Int) < 0) = false := by simp
  have hca := c_at f bx p r a b hp ha hb
  rw [hi] at hca
  (repeat (first | refine awp_seq ?_ | refine awp_block ?_ | ((first | refine awp_skip ?_ | refine awp_exit ?_ | refine awp_reg ttok ?_ | (refine awp_draw ttok ?dr_calm ?_; (case dr_calm => decide +kernel)) | refine awp_condM ?_); simp (maxSteps := 4000000) only [↓reduceIte, Nat.reduceLT, Nat.reduceEqDiff, reduceCtorEq, Nat.reduceAdd, Nat.reduceMul, Int.reduceLE, Int.reduceLT, Int.reduceToNat, Nat.reduceLeDiff, Nat.reduceSub, Int.reduceEq, Nat.reduceBEq, evB, tyA]; (repeat (with_reducible refine And.intro ?_ ?_; exact sdX)); (with_reducible first | refine awp_id ?_ | refine id_call ?_ | refine id_and ?_ | refine id_ex ?_ | refine id_all ?_ | refine id_nat ?_ | refine id_le ?_))))
  refine callVC_scal fnok14 hca rfl ?_
  simp (maxSteps := 4000000) only [↓reduceIte, Nat.reduceLT, Nat.reduceEqDiff, reduceCtorEq, Nat.reduceAdd, Nat.reduceMul, Int.reduceLE, Int.reduceLT, Int.reduceToNat, Nat.reduceLeDiff, Nat.reduceSub, Int.reduceEq, Nat.reduceBEq, evB, tyA]
  (repeat (with_reducible refine And.intro ?_ ?_; exact sdX))
  (repeat (first | refine awp_seq ?_ | refine awp_block ?_ | ((first | refine awp_skip ?_ | refine awp_exit ?_ | refine awp_reg ttok ?_ | (refine awp_draw ttok ?dr_calm ?_; (case dr_calm => decide +kernel)) | refine awp_condM ?_); simp (maxSteps := 4000000) only [↓reduceIte, Nat.reduceLT, Nat.reduceEqDiff, reduceCtorEq, Nat.reduceAdd, Nat.reduceMul, Int.reduceLE, Int.reduceLT, Int.reduceToNat, Nat.reduceLeDiff, Nat.reduceSub, Int.reduceEq, Nat.reduceBEq, evB, tyA, d1, gi, iss_len, hn]; (repeat (with_reducible refine And.intro ?_ ?_; exact sdX)); (with_reducible first | refine awp_id ?_ | refine id_call ?_ | refine id_and ?_ | refine id_ex ?_ | refine id_all ?_ | refine id_nat ?_ | refine id_le ?_))))
  refine callVC_mk fnok15 (c_CloneI cf cl (by omega)) rfl ?_
  simp (maxSteps := 4000000) only [↓reduceIte, Nat.reduceLT, Nat.reduceEqDiff, reduceCtorEq, Nat.reduceAdd, Nat.reduceMul, Int.reduceLE, Int.reduceLT, Int.reduceToNat, Nat.reduceLeDiff, Nat.reduceSub, Int.reduceEq, Nat.reduceBEq, evB, tyA]
  (repeat (with_reducible refine And.intro ?_ ?_; exact sdX))
  (repeat (first | refine awp_seq ?_ | refine awp_block ?_ | ((first | refine awp_skip ?_ | refine awp_exit ?_ | refine awp_reg ttok ?_ | (refine awp_draw ttok ?dr_calm ?_; (case dr_calm => decide +kernel)) | refine awp_condM ?_); simp (maxSteps := 4000000) only [↓reduceIte, Nat.reduceLT, Nat.reduceEqDiff, reduceCtorEq, Nat.reduceAdd, Nat.reduceMul, Int.reduceLE, Int.reduceLT, Int.reduceToNat, Nat.reduceLeDiff, Nat.reduceSub, Int.reduceEq, Nat.reduceBEq, evB, tyA]; (repeat (with_reducible refine And.intro ?_ ?_; exact sdX)); (with_reducible first | refine awp_id ?_ | refine id_call ?_ | refine id_and ?_ | refine id_ex ?_ | refine id_all ?_ | refine id_nat ?_ | refine id_le ?_))))
  exact awp_ret (ends_own (g := 105005) (.inr rfl) evX evX rfl)
theorem c_Room (f : Bool) (bx : List (Bool × List Int)) (p r : Nat) : Contract Try.prog 10 [.agg [i64 p, i64 r, .sl f (iss bx)]] (i64 r) [] := by
  refine contract_of_awp (rs := [2]) Try.func10 rfl Try.ntmps10 (by simp) rfl fun E => ?_
  (repeat (first | refine awp_seq ?_ | refine awp_block ?_ | ((first | refine awp_skip ?_ | refine awp_exit ?_ | refine awp_reg ttok ?_ | (refine awp_draw ttok ?dr_calm ?_; (case dr_calm => decide +kernel)) | refine awp_condM ?_); simp (maxSteps := 4000000) only [↓reduceIte, Nat.reduceLT, Nat.reduceEqDiff, reduceCtorEq, Nat.reduceAdd, Nat.reduceMul, Int.reduceLE, Int.reduceLT, Int.reduceToNat, Nat.reduceLeDiff, Nat.reduceSub, Int.reduceEq, Nat.reduceBEq, evB, tyA]; (repeat (with_reducible refine And.intro ?_ ?_; exact sdX)); (with_reducible first | refine awp_id ?_ | refine id_call ?_ | refine id_and ?_ | refine id_ex ?_ | refine id_all ?_ | refine id_nat ?_ | refine id_le ?_))))
  exact awp_ret (ends_plain (.inr rfl) rfl evX)
def cnt (bx : List (Bool × List Int)) : Nat := (bx.map fun b => b.2.length).sum
theorem cnt_le {bx : List (Bool × List Int)} {m : Nat} (h : ∀ b ∈ bx, b.2.length ≤ m) : cnt bx ≤ bx.length * m := by
  induction bx with
  | nil => simp [cnt]
  | cons a bx ih =>
    have h1 := h a (by simp)
    have h2 := ih fun b hb => h b (by simp [hb])
    simp only [cnt, List.map_cons, List.sum_cons, List.length_cons, Nat.add_mul, Nat.one_mul] at h2 ⊢
    omega
theorem cnt_take {bx : List (Bool × List Int)} {i : Nat} (h : i < bx.length) : cnt (bx.take (i + 1)) = cnt (bx.take i) + (bx.getD i (true, [])).2.length := by
  rw [List.take_add_one, List.getElem?_eq_getElem h]
  simp only [cnt, List.map_append, List.sum_append, Option.toList_some, List.map_cons, List.map_nil, List.sum_cons, List.sum_nil, Nat.add_zero, List.getD, List.getElem?_eq_getElem h, Option.getD_some]
set_option maxHeartbeats 4000000 in
theorem c_Count (f : Bool) (bx : List (Bool × List Int)) (p r : Nat) (hl : bx.length ≤ 256) (h : ∀ b ∈ bx, b.2.length ≤ 1000) : Contract Try.prog 8 [.agg [i64 p, i64 r, .sl f (iss bx)]] (i64 (cnt bx)) [] := by
  refine contract_of_awp (rs := [2]) Try.func8 rfl Try.ntmps8 (by simp) rfl fun E => ?_
  (repeat (first | refine awp_seq ?_ | refine awp_block ?_ | ((first | refine awp_skip ?_ | refine awp_exit ?_ | refine awp_reg ttok ?_ | (refine awp_draw ttok ?dr_calm ?_; (case dr_calm => decide +kernel)) | refine awp_condM ?_); simp (maxSteps := 4000000) only [↓reduceIte, Nat.reduceLT, Nat.reduceEqDiff, reduceCtorEq, Nat.reduceAdd, Nat.reduceMul, Int.reduceLE, Int.reduceLT, Int.reduceToNat, Nat.reduceLeDiff, Nat.reduceSub, Int.reduceEq, Nat.reduceBEq, evB, tyA, iss_len]; (repeat (with_reducible refine And.intro ?_ ?_; exact sdX)); (with_reducible first | refine awp_id ?_ | refine id_call ?_ | refine id_and ?_ | refine id_ex ?_ | refine id_all ?_ | refine id_nat ?_ | refine id_le ?_))))
  refine awp_loop (X := Nat) (fun i => mkS 19 [(3, i64 (cnt (bx.take i))), (7, .sl f (iss bx)), (8, i64 bx.length), (9, i64 i)] []) (fun i => i ≤ bx.length) (fun i => bx.length - i) 0 (by omega) (mkS_le rfl ?_ trivial) ?_
  · simp (maxSteps := 4000000) only [↓reduceIte, Nat.reduceLT, Nat.reduceEqDiff, reduceCtorEq, Nat.reduceAdd, Nat.reduceMul, Int.reduceLE, Int.reduceLT, Int.reduceToNat, Nat.reduceLeDiff, Nat.reduceSub, Int.reduceEq, Nat.reduceBEq, evB, iss_len, cnt, List.sum_nil]
    try rfl
  · intro i hi
    have hc := cnt_le (bx := bx.take i) (m := 1000) fun b hb => h b (List.mem_of_mem_take hb)
    have htl : (bx.take i).length = i := by simp; omega
    rw [htl] at hc
    by_cases hlt : i < bx.length
    · have d1 : decide ((i : Int) < (bx.length : Int)) = true := by simpa using hlt
      have gi := iss_get hlt
      have hm : bx.getD i (true, []) ∈ bx := by simp [List.getD, List.getElem?_eq_getElem hlt]
      have hb := h _ hm
      have hct := cnt_take hlt
      have hw : IntKind.i64.wrap ((cnt (bx.take i) : Int) + ((bx.getD i (true, [])).2.length : Int)) = ((cnt (bx.take (i + 1)) : Nat) : Int) := by rw [hct, i64_in (by omega) (by omega)]; omega
      have hwi : IntKind.i64.wrap ((i : Int) + 1) = ((i + 1 : Nat) : Int) := i64_in (by omega) (by omega)
      (repeat (first | refine awp_seq ?_ | refine awp_block ?_ | ((first | refine awp_skip ?_ | refine awp_exit ?_ | refine awp_reg ttok ?_ | (refine awp_draw ttok ?dr_calm ?_; (case dr_calm => decide +kernel)) | refine awp_condM ?_); simp (maxSteps := 4000000) only [↓reduceIte, Nat.reduceLT, Nat.reduceEqDiff, reduceCtorEq, Nat.reduceAdd, Nat.reduceMul, Int.reduceLE, Int.reduceLT, Int.reduceToNat, Nat.reduceLeDiff, Nat.reduceSub, Int.reduceEq, Nat.reduceBEq, evB, tyA, d1, gi, iss_len, hw, hwi]; (repeat (with_reducible refine And.intro ?_ ?_; exact sdX)); (with_reducible first | refine awp_id ?_ | refine id_call ?_ | refine id_and ?_ | refine id_ex ?_ | refine id_all ?_ | refine id_nat ?_ | refine id_le ?_))))
      refine ⟨i + 1, by omega, by omega, mkS_le rfl ?_ trivial⟩
      simp (maxSteps := 4000000) only [↓reduceIte, Nat.reduceLT, Nat.reduceEqDiff, reduceCtorEq, Nat.reduceAdd, Nat.reduceMul, Int.reduceLE, Int.reduceLT, Int.reduceToNat, Nat.reduceLeDiff, Nat.reduceSub, Int.reduceEq, Nat.reduceBEq, evB]
    · have d1 : decide ((i : Int) < (bx.length : Int)) = false := by simpa using hlt
      obtain rfl : i = bx.length := by omega
      (repeat (first | refine awp_seq ?_ | refine awp_block ?_ | ((first | refine awp_skip ?_ | refine awp_exit ?_ | refine awp_reg ttok ?_ | (refine awp_draw ttok ?dr_calm ?_; (case dr_calm => decide +kernel)) | refine awp_condM ?_); simp (maxSteps := 4000000) only [↓reduceIte, Nat.reduceLT, Nat.reduceEqDiff, reduceCtorEq, Nat.reduceAdd, Nat.reduceMul, Int.reduceLE, Int.reduceLT, Int.reduceToNat, Nat.reduceLeDiff, Nat.reduceSub, Int.reduceEq, Nat.reduceBEq, evB, tyA, d1, List.take_length]; (repeat (with_reducible refine And.intro ?_ ?_; exact sdX)); (with_reducible first | refine awp_id ?_ | refine id_call ?_ | refine id_and ?_ | refine id_ex ?_ | refine id_all ?_ | refine id_nat ?_ | refine id_le ?_))))
      exact awp_ret (ends_plain (.inr rfl) rfl evX)
theorem c_awake40 : Contract Try.prog 5 [] (bo true) [] := by
  refine contract_of_awp (rs := [0]) Try.func5 rfl Try.ntmps5 (by simp) rfl fun E => ?_
  (repeat (first | refine awp_seq ?_ | refine awp_block ?_ | ((first | refine awp_skip ?_ | refine awp_exit ?_ | refine awp_reg ttok ?_ | (refine awp_draw ttok ?dr_calm ?_; (case dr_calm => decide +kernel)) | refine awp_condM ?_); simp (maxSteps := 4000000) only [↓reduceIte, Nat.reduceLT, Nat.reduceEqDiff, reduceCtorEq, Nat.reduceAdd, Nat.reduceMul, Int.reduceLE, Int.reduceLT, Int.reduceToNat, Nat.reduceLeDiff, Nat.reduceSub, Int.reduceEq, Nat.reduceBEq, evB, tyA]; (repeat (with_reducible refine And.intro ?_ ?_; exact sdX)); (with_reducible first | refine awp_id ?_ | refine id_call ?_ | refine id_and ?_ | refine id_ex ?_ | refine id_all ?_ | refine id_nat ?_ | refine id_le ?_))))
  refine callVC_mk fnok12 (c_Way_yes 0 0 0 0 0 1 false false false false [(0, true, []), (3, false, [5, 6, 7])] [(0, true, []), (0, true, [])] [0, 0] [2, 0] (by decide) (by decide) (by decide) (by decide) 3 false [5, 6, 7] rfl 1 (by decide) (by decide) (by decide) (by decide)) rfl ?_
  have hx : (((1 : Nat) : Int) == 1) = true := rfl
  have hy : Int.toNat 1 = 1 := rfl
  have hz : (ints [7]).getD 0 [] = [i64 7] := rfl
  have hu : (0 : Int) < ((1 : Nat) : Int) := by decide
  simp (maxSteps := 4000000) only [↓reduceIte, Nat.reduceLT, Nat.reduceEqDiff, reduceCtorEq, Nat.reduceAdd, Nat.reduceMul, Int.reduceLE, Int.reduceLT, Int.reduceToNat, Nat.reduceLeDiff, Nat.reduceSub, Int.reduceEq, Nat.reduceBEq, evB, tyA, hx, hy, hz, hu, beq_self_eq_true]
  (repeat (first | refine awp_seq ?_ | refine awp_block ?_ | ((first | refine awp_skip ?_ | refine awp_exit ?_ | refine awp_reg ttok ?_ | (refine awp_draw ttok ?dr_calm ?_; (case dr_calm => decide +kernel)) | refine awp_condM ?_); simp (maxSteps := 4000000) only [↓reduceIte, Nat.reduceLT, Nat.reduceEqDiff, reduceCtorEq, Nat.reduceAdd, Nat.reduceMul, Int.reduceLE, Int.reduceLT, Int.reduceToNat, Nat.reduceLeDiff, Nat.reduceSub, Int.reduceEq, Nat.reduceBEq, evB, tyA, hx, hy, hz, hu, beq_self_eq_true]; (repeat (with_reducible refine And.intro ?_ ?_; exact sdX)); (with_reducible first | refine awp_id ?_ | refine id_call ?_ | refine id_and ?_ | refine id_ex ?_ | refine id_all ?_ | refine id_nat ?_ | refine id_le ?_))))
  refine awp_ret (ends_plain (.inr rfl) rfl evX)
def last8 (l : List Int) : List Int := l.drop (l.length - 8)
theorem last8_snoc (h : List Int) (k : Int) : last8 (last8 h ++ [k]) = last8 (h ++ [k]) := by
  unfold last8
  simp only [List.length_append, List.length_drop, List.length_cons, List.length_nil]
  by_cases q : h.length ≤ 8
  · rw [show h.length - 8 = 0 by omega, List.drop_zero]; rfl
  · rw [show h.length - (h.length - 8) + (0 + 1) - 8 = 1 by omega]
    rw [List.drop_append_of_le_length (by rw [List.length_drop]; omega), List.drop_drop, List.drop_append_of_le_length (by omega)]
    congr 2
    omega
theorem last8_len (l : List Int) : (last8 l).length ≤ 8 ∧ (last8 l).length = min l.length 8 := by unfold last8; rw [List.length_drop]; omega
abbrev HH := Nat → List Int
abbrev TT := Nat → Nat
def wayP (H : HH) (T : TT) (i : Nat) : List Int := (H i).drop (T i)
def sS (H : HH) (a : Nat) : List (Int × Bool × List Int) := (List.range 3).map fun b => (((H (3 * a + b)).length : Int), false, last8 (H (3 * a + b)))
def tT (T : TT) (b : Nat) : List Int := (List.range 3).map fun a => ((T (3 * a + b) : Nat) : Int)
abbrev imRow (H : HH) (T : TT) (a : Nat) : List D := [i64 0, i64 (a + 4), .sl false (sents (sS H a)), .sl false (ints (tT T a))]
def ims (H : HH) (T : TT) : List (List D) := (List.range 3).map (imRow H T)
theorem ims_len (H : HH) (T : TT) : (ims H T).length = 3 := by simp [ims]
theorem ims_get {H : HH} {T : TT} {a : Nat} (h : a < 3) : (ims H T).getD a [] = imRow H T a := by
  simp [ims, List.getD, h]
theorem sS_len (H : HH) (a : Nat) : (sS H a).length = 3 := by simp [sS]
theorem tT_len (T : TT) (a : Nat) : (tT T a).length = 3 := by simp [tT]
theorem sS_get {H : HH} {a b : Nat} (h : b < 3) : (sS H a)[b]? = some (((H (3 * a + b)).length : Int), false, last8 (H (3 * a + b))) := by
  simp [sS, h]
theorem tT_get {T : TT} {a b : Nat} (h : a < 3) : (tT T b).getD a 0 = ((T (3 * a + b) : Nat) : Int) := by
  simp [tT, List.getD, h]
theorem way_last {H : HH} {T : TT} {i : Nat} (h1 : T i ≤ (H i).length) (h2 : (H i).length - T i ≤ 8) : (last8 (H i)).drop ((last8 (H i)).length - ((H i).length - T i)) = wayP H T i := by
  unfold wayP last8
  rw [List.drop_drop, List.length_drop]
  congr 1
  omega
theorem wayP_len (H : HH) (T : TT) (i : Nat) : (wayP H T i).length = (H i).length - T i := by simp [wayP]
theorem c_WayYes (H : HH) (T : TT) (a b : Nat) (ha : a < 3) (hb : b < 3) (h1 : T (3 * a + b) ≤ (H (3 * a + b)).length) (h2 : (H (3 * a + b)).length - T (3 * a + b) ≤ 8) (h3 : (H (3 * a + b)).length ≤ 1000) :
    Contract Try.prog 12 [.agg (imRow H T a), .agg (imRow H T b), i64 a, i64 b] (.tup [.own 0 0 (wayP H T (3 * a + b)).length, bo true]) [{ sz := 1, rows := ints (wayP H T (3 * a + b)) }] := by
  have hl := last8_len (H (3 * a + b))
  have := c_Way_yes 0 (a + 4) 0 (b + 4) (a : Int) (b : Int) false false false false (sS H a) (sS H b) (tT T a) (tT T b) (by omega) (by rw [sS_len]; omega) (by omega) (by rw [tT_len]; omega) _ false _ (by rw [Int.toNat_natCast]; exact sS_get hb) (((H (3 * a + b)).length - T (3 * a + b) : Nat) : Int)
    (by rw [Int.toNat_natCast, tT_get ha]; omega) (by omega) (by omega) (by omega)
  rw [Int.toNat_natCast, way_last h1 h2, ← wayP_len] at this
  exact this
theorem c_WayNo (H : HH) (T : TT) (a b : Nat) (ha : a < 3) (hb : b < 3) (h1 : ¬ (T (3 * a + b) ≤ (H (3 * a + b)).length ∧ (H (3 * a + b)).length - T (3 * a + b) ≤ 8)) (h3 : (H (3 * a + b)).length ≤ 1000) (h4 : T (3 * a + b) ≤ 1000) :
    Contract Try.prog 12 [.agg (imRow H T a), .agg (imRow H T b), i64 a, i64 b] (.tup [.sl true [], bo false]) [] := by
  have hl := last8_len (H (3 * a + b))
  by_cases h : T (3 * a + b) ≤ (H (3 * a + b)).length
  · exact c_Way_no6 0 (a + 4) 0 (b + 4) (a : Int) (b : Int) false false false false (sS H a) (sS H b) (tT T a) (tT T b) (by omega) (by rw [sS_len]; omega) (by omega) (by rw [tT_len]; omega) _ false _ (by rw [Int.toNat_natCast]; exact sS_get hb) (((H (3 * a + b)).length - T (3 * a + b) : Nat) : Int)
      (by rw [Int.toNat_natCast, tT_get ha, i64_in (by omega) (by omega)]; omega) (by omega) (by omega)
  · exact c_Way_no5 0 (a + 4) 0 (b + 4) (a : Int) (b : Int) false false false false (sS H a) (sS H b) (tT T a) (tT T b) (by omega) (by rw [sS_len]; omega) (by omega) (by rw [tT_len]; omega) _ false _ (by rw [Int.toNat_natCast]; exact sS_get hb) (((H (3 * a + b)).length : Int) - (T (3 * a + b) : Int))
      (by rw [Int.toNat_natCast, tT_get ha, i64_in (by omega) (by omega)]) (by omega)
def bw (l : List Int) : Bool × List Int := (l.isEmpty, l)
def bxs (H : HH) (T : TT) (m e : Nat) : List (Bool × List Int) := (List.range 9).map fun j => if j < m then bw (wayP H T j) else if j = m then bw ((wayP H T j).take e) else (true, [])
theorem bxs_len (H : HH) (T : TT) (m e : Nat) : (bxs H T m e).length = 9 := by simp [bxs]
theorem bxs_zero (H : HH) (T : TT) : bxs H T 0 0 = nob 9 := by
  unfold bxs nob
  rw [List.eq_replicate_iff]
  refine ⟨by simp, fun x hx => ?_⟩
  obtain ⟨j, _, rfl⟩ := List.mem_map.1 hx
  rw [if_neg (by omega)]
  split
  · simp [bw]
  · rfl
theorem bxs_next (H : HH) (T : TT) {m : Nat} : bxs H T m (wayP H T m).length = bxs H T (m + 1) 0 := by
  unfold bxs
  apply List.map_congr_left
  intro j hj
  rcases Nat.lt_trichotomy j m with h | h | h
  · rw [if_pos h, if_pos (by omega)]
  · subst h
    rw [if_neg (by omega), if_pos rfl, if_pos (by omega), List.take_length]
  · rw [if_neg (by omega), if_neg (by omega), if_neg (by omega)]
    split
    · simp [bw]
    · rfl
theorem bxs_at (H : HH) (T : TT) {m e : Nat} (hm : m < 9) : boxAt (bxs H T m e) m = bw ((wayP H T m).take e) := by
  unfold boxAt bxs
  simp [List.getD, hm]
theorem bxs_set (H : HH) (T : TT) {m e : Nat} (hm : m < 9) (he : e < (wayP H T m).length) : (bxs H T m e).set m (false, (wayP H T m).take e ++ [(wayP H T m).getD e 0]) = bxs H T m (e + 1) := by
  apply List.ext_getElem
  · simp [bxs]
  · intro j h1 h2
    rw [List.getElem_set]
    simp only [bxs, List.getElem_map, List.getElem_range]
    by_cases q : m = j
    · subst q
      rw [if_pos rfl, if_neg (by omega), if_pos rfl]
      have e1 : (wayP H T m).take (e + 1) = (wayP H T m).take e ++ [(wayP H T m).getD e 0] := by
        rw [List.take_add_one]; simp [List.getD, List.getElem?_eq_getElem he]
      rw [e1]
      unfold bw
      simp
    · rw [if_neg q, if_neg (show ¬ j = m from fun z => q z.symm), if_neg (show ¬ j = m from fun z => q z.symm)]
def wok (H : HH) (T : TT) (r : Nat) (i : Nat) : Bool := decide (T i ≤ (H i).length) && decide ((H i).length - T i ≤ r)
def wall (H : HH) (T : TT) (r : Nat) : Bool := (List.range 9).all (wok H T r)
theorem wall_no {H : HH} {T : TT} {r i : Nat} (hi : i < 9) (h : wok H T r i = false) : wall H T r = false := by
  unfold wall
  rw [List.all_eq_false]
  exact ⟨i, List.mem_range.2 hi, by rw [h]; decide⟩
theorem wall_yes {H : HH} {T : TT} {r : Nat} (h : ∀ i, i < 9 → wok H T r i = true) : wall H T r = true := by
  unfold wall
  rw [List.all_eq_true]
  exact fun i hi => h i (List.mem_range.1 hi)
end Go.Proofs.Ytgjdgomkcdleiaa
