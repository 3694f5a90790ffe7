import Derived.Test.YtcpipfodedfpkaaJq
import Derived.Test.YtcpipfodedfpkaaUn
import Derived.Test.YtcpipfodedfpkaaDt
set_option linter.unusedSimpArgs false
set_option linter.unusedVariables false
namespace Go.Proofs.Ytcpipfodedfpkaa
open Go.Ab
theorem ext_getI {A B : List Int} (hl : A.length = B.length) (h : ∀ j, j < A.length → A.getD j 0 = B.getD j 0) : A = B := by
  apply List.ext_getElem hl
  intro j h1 h2
  have := h j h1
  simpa [List.getD, List.getElem?_eq_getElem h1, List.getElem?_eq_getElem h2] using this
set_option maxHeartbeats 16000000 in
theorem c_EqIG (f g : Bool) (A B : List Int) (hA : A.length ≤ 100000) (hB : B.length ≤ 100000) : Contract Try.prog 50 [.sl f (ints A), .sl g (ints B)] (bo (A == B)) [] := by
  refine contract_of_awp (rs := [4]) Try.func50 rfl Try.ntmps50 (by simp) rfl fun E => ?_
  by_cases hl : A.length = B.length
  · have k0 : ((A.length : Int) != (B.length : Int)) = false := by simp [hl]
    (repeat (first | refine awp_seq ?_ | refine awp_block ?_ | ((first | refine awp_skip ?_ | refine awp_exit ?_ | refine awp_reg ttok ?_ | (refine awp_draw ttok ?dr_calm ?_; (case dr_calm => decide +kernel)) | refine awp_condM ?_); simp (maxSteps := 4000000) only [↓reduceIte, Nat.reduceLT, Nat.reduceEqDiff, reduceCtorEq, Nat.reduceAdd, Nat.reduceMul, Int.reduceLE, Int.reduceLT, Int.reduceToNat, Nat.reduceLeDiff, Nat.reduceSub, Int.reduceEq, Nat.reduceBEq, List.replicate, List.set, evB, tyA, ints_len, k0]; (repeat (with_reducible refine And.intro ?_ ?_; exact sdX)); (with_reducible first | refine awp_id ?_ | refine id_call ?_ | refine id_and ?_ | refine id_ex ?_ | refine id_all ?_ | refine id_nat ?_ | refine id_le ?_))))
    refine awp_loop (X := Nat) (fun i => mkS 26 [(0, .sl f (ints A)), (1, .sl g (ints B)), (12, i64 A.length), (13, i64 i)] []) (fun i => i ≤ A.length ∧ ∀ j, j < i → A.getD j 0 = B.getD j 0) (fun i => A.length - i) 0 ⟨Nat.zero_le _, fun j hj => by omega⟩ (mkS_le rfl ?_ trivial) ?_
    · simp (maxSteps := 4000000) only [↓reduceIte, Nat.reduceLT, Nat.reduceEqDiff, reduceCtorEq, Nat.reduceAdd, Nat.reduceMul, Int.reduceLE, Int.reduceLT, Int.reduceToNat, Nat.reduceLeDiff, Nat.reduceSub, Int.reduceEq, Nat.reduceBEq, List.replicate, List.set, evB, ints_len]
      try rfl
    · rintro i ⟨hi, hn⟩
      by_cases hlt : i < A.length
      · have d1 : decide ((i : Int) < (A.length : Int)) = true := by simpa using hlt
        have hwi : IntKind.i64.wrap ((i : Int) + 1) = ((i + 1 : Nat) : Int) := i64_in (by omega) (by omega)
        have gi := ints_get hlt
        have gj := ints_get (l := B) (i := i) (by omega)
        by_cases he : A.getD i 0 = B.getD i 0
        · have hnn : ∀ j, j < i + 1 → A.getD j 0 = B.getD j 0 := fun j hj => by
            rcases Nat.lt_or_ge j i with q | q
            · exact hn j q
            · have : j = i := by omega
              rw [this]; exact he
          rw [he] at gi
          generalize B.getD i 0 = y at *
          have k1 : (y != y) = false := by simp
          (repeat (first | refine awp_seq ?_ | refine awp_block ?_ | ((first | refine awp_skip ?_ | refine awp_exit ?_ | refine awp_reg ttok ?_ | (refine awp_draw ttok ?dr_calm ?_; (case dr_calm => decide +kernel)) | refine awp_condM ?_); simp (maxSteps := 4000000) only [↓reduceIte, Nat.reduceLT, Nat.reduceEqDiff, reduceCtorEq, Nat.reduceAdd, Nat.reduceMul, Int.reduceLE, Int.reduceLT, Int.reduceToNat, Nat.reduceLeDiff, Nat.reduceSub, Int.reduceEq, Nat.reduceBEq, List.replicate, List.set, evB, tyA, d1, gi, gj, ints_len, k1, hwi]; (repeat (with_reducible refine And.intro ?_ ?_; exact sdX)); (with_reducible first | refine awp_id ?_ | refine id_call ?_ | refine id_and ?_ | refine id_ex ?_ | refine id_all ?_ | refine id_nat ?_ | refine id_le ?_))))
          refine ⟨i + 1, ⟨by omega, hnn⟩, by omega, mkS_le rfl ?_ trivial⟩
          simp (maxSteps := 4000000) only [↓reduceIte, Nat.reduceLT, Nat.reduceEqDiff, reduceCtorEq, Nat.reduceAdd, Nat.reduceMul, Int.reduceLE, Int.reduceLT, Int.reduceToNat, Nat.reduceLeDiff, Nat.reduceSub, Int.reduceEq, Nat.reduceBEq, List.replicate, List.set, evB]
        · have hne : (A == B) = false := by
            rw [beq_eq_false_iff_ne]; rintro rfl; exact he rfl
          generalize A.getD i 0 = x at *
          generalize B.getD i 0 = y at *
          have k1 : (x != y) = true := by simpa using he
          (repeat (first | refine awp_seq ?_ | refine awp_block ?_ | ((first | refine awp_skip ?_ | refine awp_exit ?_ | refine awp_reg ttok ?_ | (refine awp_draw ttok ?dr_calm ?_; (case dr_calm => decide +kernel)) | refine awp_condM ?_); simp (maxSteps := 4000000) only [↓reduceIte, Nat.reduceLT, Nat.reduceEqDiff, reduceCtorEq, Nat.reduceAdd, Nat.reduceMul, Int.reduceLE, Int.reduceLT, Int.reduceToNat, Nat.reduceLeDiff, Nat.reduceSub, Int.reduceEq, Nat.reduceBEq, List.replicate, List.set, evB, tyA, d1, gi, gj, ints_len, k1]; (repeat (with_reducible refine And.intro ?_ ?_; exact sdX)); (with_reducible first | refine awp_id ?_ | refine id_call ?_ | refine id_and ?_ | refine id_ex ?_ | refine id_all ?_ | refine id_nat ?_ | refine id_le ?_))))
          exact awp_ret (ends_plain (.inr rfl) rfl (by simp (maxSteps := 4000000) only [↓reduceIte, Nat.reduceLT, Nat.reduceEqDiff, reduceCtorEq, Nat.reduceAdd, Nat.reduceMul, Int.reduceLE, Int.reduceLT, Int.reduceToNat, Nat.reduceLeDiff, Nat.reduceSub, Int.reduceEq, Nat.reduceBEq, List.replicate, List.set, evB, hne]))
      · have d1 : decide ((i : Int) < (A.length : Int)) = false := by simpa using hlt
        have heq : (A == B) = true := by
          rw [beq_iff_eq]; exact ext_getI hl fun j hj => hn j (by omega)
        (repeat (first | refine awp_seq ?_ | refine awp_block ?_ | ((first | refine awp_skip ?_ | refine awp_exit ?_ | refine awp_reg ttok ?_ | (refine awp_draw ttok ?dr_calm ?_; (case dr_calm => decide +kernel)) | refine awp_condM ?_); simp (maxSteps := 4000000) only [↓reduceIte, Nat.reduceLT, Nat.reduceEqDiff, reduceCtorEq, Nat.reduceAdd, Nat.reduceMul, Int.reduceLE, Int.reduceLT, Int.reduceToNat, Nat.reduceLeDiff, Nat.reduceSub, Int.reduceEq, Nat.reduceBEq, List.replicate, List.set, evB, tyA, d1]; (repeat (with_reducible refine And.intro ?_ ?_; exact sdX)); (with_reducible first | refine awp_id ?_ | refine id_call ?_ | refine id_and ?_ | refine id_ex ?_ | refine id_all ?_ | refine id_nat ?_ | refine id_le ?_))))
        exact awp_ret (ends_plain (.inr rfl) rfl (by simp (maxSteps := 4000000) only [↓reduceIte, Nat.reduceLT, Nat.reduceEqDiff, reduceCtorEq, Nat.reduceAdd, Nat.reduceMul, Int.reduceLE, Int.reduceLT, Int.reduceToNat, Nat.reduceLeDiff, Nat.reduceSub, Int.reduceEq, Nat.reduceBEq, List.replicate, List.set, evB, heq]))
  · have k0 : ((A.length : Int) != (B.length : Int)) = true := by simp; omega
    have hne : (A == B) = false := by
      rw [beq_eq_false_iff_ne]; rintro rfl; exact hl rfl
    (repeat (first | refine awp_seq ?_ | refine awp_block ?_ | ((first | refine awp_skip ?_ | refine awp_exit ?_ | refine awp_reg ttok ?_ | (refine awp_draw ttok ?dr_calm ?_; (case dr_calm => decide +kernel)) | refine awp_condM ?_); simp (maxSteps := 4000000) only [↓reduceIte, Nat.reduceLT, Nat.reduceEqDiff, reduceCtorEq, Nat.reduceAdd, Nat.reduceMul, Int.reduceLE, Int.reduceLT, Int.reduceToNat, Nat.reduceLeDiff, Nat.reduceSub, Int.reduceEq, Nat.reduceBEq, List.replicate, List.set, evB, tyA, ints_len, k0]; (repeat (with_reducible refine And.intro ?_ ?_; exact sdX)); (with_reducible first | refine awp_id ?_ | refine id_call ?_ | refine id_and ?_ | refine id_ex ?_ | refine id_all ?_ | refine id_nat ?_ | refine id_le ?_))))
    exact awp_ret (ends_plain (.inr rfl) rfl (by simp (maxSteps := 4000000) only [↓reduceIte, Nat.reduceLT, Nat.reduceEqDiff, reduceCtorEq, Nat.reduceAdd, Nat.reduceMul, Int.reduceLE, Int.reduceLT, Int.reduceToNat, Nat.reduceLeDiff, Nat.reduceSub, Int.reduceEq, Nat.reduceBEq, List.replicate, List.set, evB, hne]))
theorem c_JOf1 (x t : List Int) (f : Bool) (hx : x.length ≤ 100000) (ht : t.length ≤ 100000) : Contract Try.prog 65 [.sl false (ints x), .ref [.sl f (ints t)] 0] (bo (x == t)) [] := by
  refine contract_of_awp (rs := [3]) Try.func65 rfl Try.ntmps65 (by simp) rfl fun E => ?_
  (repeat (first | refine awp_seq ?_ | refine awp_block ?_ | ((first | refine awp_skip ?_ | refine awp_exit ?_ | refine awp_reg ttok ?_ | (refine awp_draw ttok ?dr_calm ?_; (case dr_calm => decide +kernel)) | refine awp_condM ?_); simp (maxSteps := 4000000) only [↓reduceIte, Nat.reduceLT, Nat.reduceEqDiff, reduceCtorEq, Nat.reduceAdd, Nat.reduceMul, Int.reduceLE, Int.reduceLT, Int.reduceToNat, Nat.reduceLeDiff, Nat.reduceSub, Int.reduceEq, Nat.reduceBEq, List.replicate, List.set, evB, tyA]; (repeat (with_reducible refine And.intro ?_ ?_; exact sdX)); (with_reducible first | refine awp_id ?_ | refine id_call ?_ | refine id_and ?_ | refine id_ex ?_ | refine id_all ?_ | refine id_nat ?_ | refine id_le ?_))))
  refine callVC_scal fnok50 (c_EqIG false f x t hx ht) rfl ?_
  simp (maxSteps := 4000000) only [↓reduceIte, Nat.reduceLT, Nat.reduceEqDiff, reduceCtorEq, Nat.reduceAdd, Nat.reduceMul, Int.reduceLE, Int.reduceLT, Int.reduceToNat, Nat.reduceLeDiff, Nat.reduceSub, Int.reduceEq, Nat.reduceBEq, List.replicate, List.set, evB, tyA]
  (repeat (with_reducible refine And.intro ?_ ?_; exact sdX))
  (repeat (first | refine awp_seq ?_ | refine awp_block ?_ | ((first | refine awp_skip ?_ | refine awp_exit ?_ | refine awp_reg ttok ?_ | (refine awp_draw ttok ?dr_calm ?_; (case dr_calm => decide +kernel)) | refine awp_condM ?_); simp (maxSteps := 4000000) only [↓reduceIte, Nat.reduceLT, Nat.reduceEqDiff, reduceCtorEq, Nat.reduceAdd, Nat.reduceMul, Int.reduceLE, Int.reduceLT, Int.reduceToNat, Nat.reduceLeDiff, Nat.reduceSub, Int.reduceEq, Nat.reduceBEq, List.replicate, List.set, evB, tyA]; (repeat (with_reducible refine And.intro ?_ ?_; exact sdX)); (with_reducible first | refine awp_id ?_ | refine id_call ?_ | refine id_and ?_ | refine id_ex ?_ | refine id_all ?_ | refine id_nat ?_ | refine id_le ?_))))
  exact awp_ret (ends_plain (.inr rfl) rfl evX)
theorem c_JHolds1 {L k : Nat} {N : List (List Int)} (h : NOk L k N) (st : Nat) (hst : st < k) (F : List Bool) (hF : F.length = k) (f g : Bool) (l : List Pr) (lb : List Lab) (w : List Int) (hl : l.length ≤ 1000) (hg : GoodL lb l.length) (hw : ∀ i, i < l.length → PWf (l.getD i noPr)) (hwl : w.length ≤ 100000) (hh : endsD F N st w = true → folJ l lb w = true) :
    Contract Try.prog 68 [.sl false (ints w), .ref [i64 L, i64 st, .sl false (bos F), .sl false (iis N)] 0, .ref [.sl f (prs l)] 0, .ref [.sl g (tri lb)] 0] (bo false) [] := by
  refine contract_of_awp (rs := [5]) Try.func68 rfl Try.ntmps68 (by simp) rfl fun E => ?_
  have hT := c_DTakes h st hst F hF false w hwl
  have hFo := c_JFollows f g false l lb w hl hg hw hwl
  (repeat (first | refine awp_seq ?_ | refine awp_block ?_ | ((first | refine awp_skip ?_ | refine awp_exit ?_ | refine awp_reg ttok ?_ | (refine awp_draw ttok ?dr_calm ?_; (case dr_calm => decide +kernel)) | refine awp_condM ?_); simp (maxSteps := 4000000) only [↓reduceIte, Nat.reduceLT, Nat.reduceEqDiff, reduceCtorEq, Nat.reduceAdd, Nat.reduceMul, Int.reduceLE, Int.reduceLT, Int.reduceToNat, Nat.reduceLeDiff, Nat.reduceSub, Int.reduceEq, Nat.reduceBEq, List.replicate, List.set, evB, tyA]; (repeat (with_reducible refine And.intro ?_ ?_; exact sdX)); (with_reducible first | refine awp_id ?_ | refine id_call ?_ | refine id_and ?_ | refine id_ex ?_ | refine id_all ?_ | refine id_nat ?_ | refine id_le ?_))))
  refine callVC_scal fnok69 hT rfl ?_
  cases hq : endsD F N st w
  · simp (maxSteps := 4000000) only [↓reduceIte, Nat.reduceLT, Nat.reduceEqDiff, reduceCtorEq, Nat.reduceAdd, Nat.reduceMul, Int.reduceLE, Int.reduceLT, Int.reduceToNat, Nat.reduceLeDiff, Nat.reduceSub, Int.reduceEq, Nat.reduceBEq, List.replicate, List.set, evB, tyA]
    (repeat (with_reducible refine And.intro ?_ ?_; exact sdX))
    (repeat (first | refine awp_seq ?_ | refine awp_block ?_ | ((first | refine awp_skip ?_ | refine awp_exit ?_ | refine awp_reg ttok ?_ | (refine awp_draw ttok ?dr_calm ?_; (case dr_calm => decide +kernel)) | refine awp_condM ?_); simp (maxSteps := 4000000) only [↓reduceIte, Nat.reduceLT, Nat.reduceEqDiff, reduceCtorEq, Nat.reduceAdd, Nat.reduceMul, Int.reduceLE, Int.reduceLT, Int.reduceToNat, Nat.reduceLeDiff, Nat.reduceSub, Int.reduceEq, Nat.reduceBEq, List.replicate, List.set, evB, tyA]; (repeat (with_reducible refine And.intro ?_ ?_; exact sdX)); (with_reducible first | refine awp_id ?_ | refine id_call ?_ | refine id_and ?_ | refine id_ex ?_ | refine id_all ?_ | refine id_nat ?_ | refine id_le ?_))))
    exact awp_ret (ends_plain (.inr rfl) rfl evX)
  · rw [hh hq] at hFo
    simp (maxSteps := 4000000) only [↓reduceIte, Nat.reduceLT, Nat.reduceEqDiff, reduceCtorEq, Nat.reduceAdd, Nat.reduceMul, Int.reduceLE, Int.reduceLT, Int.reduceToNat, Nat.reduceLeDiff, Nat.reduceSub, Int.reduceEq, Nat.reduceBEq, List.replicate, List.set, evB, tyA]
    (repeat (with_reducible refine And.intro ?_ ?_; exact sdX))
    refine callVC_scal fnok40 hFo rfl ?_
    simp (maxSteps := 4000000) only [↓reduceIte, Nat.reduceLT, Nat.reduceEqDiff, reduceCtorEq, Nat.reduceAdd, Nat.reduceMul, Int.reduceLE, Int.reduceLT, Int.reduceToNat, Nat.reduceLeDiff, Nat.reduceSub, Int.reduceEq, Nat.reduceBEq, List.replicate, List.set, evB, tyA]
    (repeat (with_reducible refine And.intro ?_ ?_; exact sdX))
    (repeat (first | refine awp_seq ?_ | refine awp_block ?_ | ((first | refine awp_skip ?_ | refine awp_exit ?_ | refine awp_reg ttok ?_ | (refine awp_draw ttok ?dr_calm ?_; (case dr_calm => decide +kernel)) | refine awp_condM ?_); simp (maxSteps := 4000000) only [↓reduceIte, Nat.reduceLT, Nat.reduceEqDiff, reduceCtorEq, Nat.reduceAdd, Nat.reduceMul, Int.reduceLE, Int.reduceLT, Int.reduceToNat, Nat.reduceLeDiff, Nat.reduceSub, Int.reduceEq, Nat.reduceBEq, List.replicate, List.set, evB, tyA]; (repeat (with_reducible refine And.intro ?_ ?_; exact sdX)); (with_reducible first | refine awp_id ?_ | refine id_call ?_ | refine id_and ?_ | refine id_ex ?_ | refine id_all ?_ | refine id_nat ?_ | refine id_le ?_))))
    exact awp_ret (ends_plain (.inr rfl) rfl evX)
theorem c_IdxII3 (g : Nat) (row row2 row3 : List D) (hg : FnOk Try.prog g) (p : List Int → Bool) (f : Bool) (l : List (List Int)) (hl : l.length ≤ 100000) (hp : ∀ x ∈ l, Contract Try.prog g [.sl false (ints x), .ref row 0, .ref row2 0, .ref row3 0] (bo (p x)) []) :
    Contract Try.prog 64 [.sl f (iis l), .fn (.func g) 0 [.ref row 0, .ref row2 0, .ref row3 0]] (i64 (idxP p l 0)) [] := by
  refine contract_of_awp (rs := [4]) Try.func64 rfl Try.ntmps64 (by simp) rfl fun E => ?_
  (repeat (first | refine awp_seq ?_ | refine awp_block ?_ | ((first | refine awp_skip ?_ | refine awp_exit ?_ | refine awp_reg ttok ?_ | (refine awp_draw ttok ?dr_calm ?_; (case dr_calm => decide +kernel)) | refine awp_condM ?_); simp (maxSteps := 4000000) only [↓reduceIte, Nat.reduceLT, Nat.reduceEqDiff, reduceCtorEq, Nat.reduceAdd, Nat.reduceMul, Int.reduceLE, Int.reduceLT, Int.reduceToNat, Nat.reduceLeDiff, Nat.reduceSub, Int.reduceEq, Nat.reduceBEq, List.replicate, List.set, evB, tyA, iis_len]; (repeat (with_reducible refine And.intro ?_ ?_; exact sdX)); (with_reducible first | refine awp_id ?_ | refine id_call ?_ | refine id_and ?_ | refine id_ex ?_ | refine id_all ?_ | refine id_nat ?_ | refine id_le ?_))))
  refine awp_loop (X := Nat) (fun i => mkS 19 [(0, .sl f (iis l)), (1, .fn (.func g) 0 [.ref row 0, .ref row2 0, .ref row3 0]), (7, i64 l.length), (8, i64 i)] []) (fun i => i ≤ l.length ∧ idxP p (l.drop i) i = idxP p l 0) (fun i => l.length - i) 0 ⟨by omega, rfl⟩ (mkS_le rfl ?_ trivial) ?_
  · simp (maxSteps := 4000000) only [↓reduceIte, Nat.reduceLT, Nat.reduceEqDiff, reduceCtorEq, Nat.reduceAdd, Nat.reduceMul, Int.reduceLE, Int.reduceLT, Int.reduceToNat, Nat.reduceLeDiff, Nat.reduceSub, Int.reduceEq, Nat.reduceBEq, List.replicate, List.set, evB]
    try rfl
  · rintro i ⟨hi, hq⟩
    by_cases hlt : i < l.length
    · have d1 : decide ((i : Int) < (l.length : Int)) = true := by simpa using hlt
      have gi := iis_get hlt
      have hpx := hp _ (getD_mem hlt [])
      rw [drop_getD hlt [], idxP] at hq
      generalize l.getD i [] = x at gi hq hpx
      have hwi : IntKind.i64.wrap ((i : Int) + 1) = ((i + 1 : Nat) : Int) := i64_in (by omega) (by omega)
      (repeat (first | refine awp_seq ?_ | refine awp_block ?_ | ((first | refine awp_skip ?_ | refine awp_exit ?_ | refine awp_reg ttok ?_ | (refine awp_draw ttok ?dr_calm ?_; (case dr_calm => decide +kernel)) | refine awp_condM ?_); simp (maxSteps := 4000000) only [↓reduceIte, Nat.reduceLT, Nat.reduceEqDiff, reduceCtorEq, Nat.reduceAdd, Nat.reduceMul, Int.reduceLE, Int.reduceLT, Int.reduceToNat, Nat.reduceLeDiff, Nat.reduceSub, Int.reduceEq, Nat.reduceBEq, List.replicate, List.set, evB, tyA, d1, gi, iis_len]; (repeat (with_reducible refine And.intro ?_ ?_; exact sdX)); (with_reducible first | refine awp_id ?_ | refine id_call ?_ | refine id_and ?_ | refine id_ex ?_ | refine id_all ?_ | refine id_nat ?_ | refine id_le ?_))))
      refine callVC_scal hg hpx rfl ?_
      cases he : p x
      · rw [he, if_neg (by simp)] at hq
        simp (maxSteps := 4000000) only [↓reduceIte, Nat.reduceLT, Nat.reduceEqDiff, reduceCtorEq, Nat.reduceAdd, Nat.reduceMul, Int.reduceLE, Int.reduceLT, Int.reduceToNat, Nat.reduceLeDiff, Nat.reduceSub, Int.reduceEq, Nat.reduceBEq, List.replicate, List.set, evB, tyA, he]
        (repeat (with_reducible refine And.intro ?_ ?_; exact sdX))
        (repeat (first | refine awp_seq ?_ | refine awp_block ?_ | ((first | refine awp_skip ?_ | refine awp_exit ?_ | refine awp_reg ttok ?_ | (refine awp_draw ttok ?dr_calm ?_; (case dr_calm => decide +kernel)) | refine awp_condM ?_); simp (maxSteps := 4000000) only [↓reduceIte, Nat.reduceLT, Nat.reduceEqDiff, reduceCtorEq, Nat.reduceAdd, Nat.reduceMul, Int.reduceLE, Int.reduceLT, Int.reduceToNat, Nat.reduceLeDiff, Nat.reduceSub, Int.reduceEq, Nat.reduceBEq, List.replicate, List.set, evB, tyA, he, hwi]; (repeat (with_reducible refine And.intro ?_ ?_; exact sdX)); (with_reducible first | refine awp_id ?_ | refine id_call ?_ | refine id_and ?_ | refine id_ex ?_ | refine id_all ?_ | refine id_nat ?_ | refine id_le ?_))))
        refine ⟨i + 1, ⟨by omega, hq⟩, by omega, mkS_le rfl ?_ trivial⟩
        simp (maxSteps := 4000000) only [↓reduceIte, Nat.reduceLT, Nat.reduceEqDiff, reduceCtorEq, Nat.reduceAdd, Nat.reduceMul, Int.reduceLE, Int.reduceLT, Int.reduceToNat, Nat.reduceLeDiff, Nat.reduceSub, Int.reduceEq, Nat.reduceBEq, List.replicate, List.set, evB]
      · rw [he, if_pos rfl] at hq
        simp (maxSteps := 4000000) only [↓reduceIte, Nat.reduceLT, Nat.reduceEqDiff, reduceCtorEq, Nat.reduceAdd, Nat.reduceMul, Int.reduceLE, Int.reduceLT, Int.reduceToNat, Nat.reduceLeDiff, Nat.reduceSub, Int.reduceEq, Nat.reduceBEq, List.replicate, List.set, evB, tyA, he]
        (repeat (with_reducible refine And.intro ?_ ?_; exact sdX))
        (repeat (first | refine awp_seq ?_ | refine awp_block ?_ | ((first | refine awp_skip ?_ | refine awp_exit ?_ | refine awp_reg ttok ?_ | (refine awp_draw ttok ?dr_calm ?_; (case dr_calm => decide +kernel)) | refine awp_condM ?_); simp (maxSteps := 4000000) only [↓reduceIte, Nat.reduceLT, Nat.reduceEqDiff, reduceCtorEq, Nat.reduceAdd, Nat.reduceMul, Int.reduceLE, Int.reduceLT, Int.reduceToNat, Nat.reduceLeDiff, Nat.reduceSub, Int.reduceEq, Nat.reduceBEq, List.replicate, List.set, evB, tyA, he]; (repeat (with_reducible refine And.intro ?_ ?_; exact sdX)); (with_reducible first | refine awp_id ?_ | refine id_call ?_ | refine id_and ?_ | refine id_ex ?_ | refine id_all ?_ | refine id_nat ?_ | refine id_le ?_))))
        exact awp_ret (ends_plain (.inr rfl) rfl (by simp (maxSteps := 4000000) only [↓reduceIte, Nat.reduceLT, Nat.reduceEqDiff, reduceCtorEq, Nat.reduceAdd, Nat.reduceMul, Int.reduceLE, Int.reduceLT, Int.reduceToNat, Nat.reduceLeDiff, Nat.reduceSub, Int.reduceEq, Nat.reduceBEq, List.replicate, List.set, evB, hq]))
    · have d1 : decide ((i : Int) < (l.length : Int)) = false := by simpa using hlt
      rw [List.drop_of_length_le (by omega)] at hq
      have hm : idxP p l 0 = -1 := by rw [← hq]; rfl
      (repeat (first | refine awp_seq ?_ | refine awp_block ?_ | ((first | refine awp_skip ?_ | refine awp_exit ?_ | refine awp_reg ttok ?_ | (refine awp_draw ttok ?dr_calm ?_; (case dr_calm => decide +kernel)) | refine awp_condM ?_); simp (maxSteps := 4000000) only [↓reduceIte, Nat.reduceLT, Nat.reduceEqDiff, reduceCtorEq, Nat.reduceAdd, Nat.reduceMul, Int.reduceLE, Int.reduceLT, Int.reduceToNat, Nat.reduceLeDiff, Nat.reduceSub, Int.reduceEq, Nat.reduceBEq, List.replicate, List.set, evB, tyA, d1]; (repeat (with_reducible refine And.intro ?_ ?_; exact sdX)); (with_reducible first | refine awp_id ?_ | refine id_call ?_ | refine id_and ?_ | refine id_ex ?_ | refine id_all ?_ | refine id_nat ?_ | refine id_le ?_))))
      exact awp_ret (ends_plain (.inr rfl) rfl (by simp (maxSteps := 4000000) only [↓reduceIte, Nat.reduceLT, Nat.reduceEqDiff, reduceCtorEq, Nat.reduceAdd, Nat.reduceMul, Int.reduceLE, Int.reduceLT, Int.reduceToNat, Nat.reduceLeDiff, Nat.reduceSub, Int.reduceEq, Nat.reduceBEq, List.replicate, List.set, evB, hm]))
theorem c_CtII3 (g : Nat) (row row2 row3 : List D) (hg : FnOk Try.prog g) (p : List Int → Bool) (f : Bool) (l : List (List Int)) (hl : l.length ≤ 100000) (hp : ∀ x ∈ l, Contract Try.prog g [.sl false (ints x), .ref row 0, .ref row2 0, .ref row3 0] (bo (p x)) []) :
    Contract Try.prog 67 [.sl f (iis l), .fn (.func g) 0 [.ref row 0, .ref row2 0, .ref row3 0]] (bo (l.any p)) [] := by
  refine contract_of_awp (rs := [4]) Try.func67 rfl Try.ntmps67 (by simp) rfl fun E => ?_
  have ha := idxP_any p l 0
  (repeat (first | refine awp_seq ?_ | refine awp_block ?_ | ((first | refine awp_skip ?_ | refine awp_exit ?_ | refine awp_reg ttok ?_ | (refine awp_draw ttok ?dr_calm ?_; (case dr_calm => decide +kernel)) | refine awp_condM ?_); simp (maxSteps := 4000000) only [↓reduceIte, Nat.reduceLT, Nat.reduceEqDiff, reduceCtorEq, Nat.reduceAdd, Nat.reduceMul, Int.reduceLE, Int.reduceLT, Int.reduceToNat, Nat.reduceLeDiff, Nat.reduceSub, Int.reduceEq, Nat.reduceBEq, List.replicate, List.set, evB, tyA]; (repeat (with_reducible refine And.intro ?_ ?_; exact sdX)); (with_reducible first | refine awp_id ?_ | refine id_call ?_ | refine id_and ?_ | refine id_ex ?_ | refine id_all ?_ | refine id_nat ?_ | refine id_le ?_))))
  refine callVC_scal fnok64 (c_IdxII3 g row row2 row3 hg p f l hl hp) rfl ?_
  simp (maxSteps := 4000000) only [↓reduceIte, Nat.reduceLT, Nat.reduceEqDiff, reduceCtorEq, Nat.reduceAdd, Nat.reduceMul, Int.reduceLE, Int.reduceLT, Int.reduceToNat, Nat.reduceLeDiff, Nat.reduceSub, Int.reduceEq, Nat.reduceBEq, List.replicate, List.set, evB, tyA, ha]
  (repeat (with_reducible refine And.intro ?_ ?_; exact sdX))
  (repeat (first | refine awp_seq ?_ | refine awp_block ?_ | ((first | refine awp_skip ?_ | refine awp_exit ?_ | refine awp_reg ttok ?_ | (refine awp_draw ttok ?dr_calm ?_; (case dr_calm => decide +kernel)) | refine awp_condM ?_); simp (maxSteps := 4000000) only [↓reduceIte, Nat.reduceLT, Nat.reduceEqDiff, reduceCtorEq, Nat.reduceAdd, Nat.reduceMul, Int.reduceLE, Int.reduceLT, Int.reduceToNat, Nat.reduceLeDiff, Nat.reduceSub, Int.reduceEq, Nat.reduceBEq, List.replicate, List.set, evB, tyA, ha]; (repeat (with_reducible refine And.intro ?_ ?_; exact sdX)); (with_reducible first | refine awp_id ?_ | refine id_call ?_ | refine id_and ?_ | refine id_ex ?_ | refine id_all ?_ | refine id_nat ?_ | refine id_le ?_))))
  exact awp_ret (ends_plain (.inr rfl) rfl evX)
theorem c_JHolds {L k : Nat} {N : List (List Int)} (h : NOk L k N) (st : Nat) (hst : st < k) (F : List Bool) (hF : F.length = k) (f g e : Bool) (l : List Pr) (lb : List Lab) (ws : List (List Int)) (hl : l.length ≤ 1000) (hg : GoodL lb l.length) (hw : ∀ i, i < l.length → PWf (l.getD i noPr)) (hwn : ws.length ≤ 100000000) (hwl : ∀ w ∈ ws, w.length ≤ 100000) (hwn2 : ws.length ≤ 100000) (hh : ∀ w ∈ ws, endsD F N st w = true → folJ l lb w = true) :
    Contract Try.prog 41 [dfaD L st F N, .sl f (prs l), .sl g (tri lb), .sl e (iis ws)] (bo true) [] := by
  refine contract_of_awp (rs := [8]) Try.func41 rfl Try.ntmps41 (by simp) rfl fun E => ?_
  have hc := c_CtII3 68 [i64 L, i64 st, .sl false (bos F), .sl false (iis N)] [.sl f (prs l)] [.sl g (tri lb)] fnok68 (fun _ => false) e ws hwn2 (fun w hm => c_JHolds1 h st hst F hF f g l lb w hl hg hw (hwl w hm) (hh w hm))
  have ha : ws.any (fun _ => false) = false := by simp
  rw [ha] at hc
  (repeat (first | refine awp_seq ?_ | refine awp_block ?_ | ((first | refine awp_skip ?_ | refine awp_exit ?_ | refine awp_reg ttok ?_ | (refine awp_draw ttok ?dr_calm ?_; (case dr_calm => decide +kernel)) | refine awp_condM ?_); simp (maxSteps := 4000000) only [↓reduceIte, Nat.reduceLT, Nat.reduceEqDiff, reduceCtorEq, Nat.reduceAdd, Nat.reduceMul, Int.reduceLE, Int.reduceLT, Int.reduceToNat, Nat.reduceLeDiff, Nat.reduceSub, Int.reduceEq, Nat.reduceBEq, List.replicate, List.set, evB, tyA, dfaD]; (repeat (with_reducible refine And.intro ?_ ?_; exact sdX)); (with_reducible first | refine awp_id ?_ | refine id_call ?_ | refine id_and ?_ | refine id_ex ?_ | refine id_all ?_ | refine id_nat ?_ | refine id_le ?_))))
  refine callVC_scal fnok67 hc rfl ?_
  simp (maxSteps := 4000000) only [↓reduceIte, Nat.reduceLT, Nat.reduceEqDiff, reduceCtorEq, Nat.reduceAdd, Nat.reduceMul, Int.reduceLE, Int.reduceLT, Int.reduceToNat, Nat.reduceLeDiff, Nat.reduceSub, Int.reduceEq, Nat.reduceBEq, List.replicate, List.set, evB, tyA]
  (repeat (with_reducible refine And.intro ?_ ?_; exact sdX))
  (repeat (first | refine awp_seq ?_ | refine awp_block ?_ | ((first | refine awp_skip ?_ | refine awp_exit ?_ | refine awp_reg ttok ?_ | (refine awp_draw ttok ?dr_calm ?_; (case dr_calm => decide +kernel)) | refine awp_condM ?_); simp (maxSteps := 4000000) only [↓reduceIte, Nat.reduceLT, Nat.reduceEqDiff, reduceCtorEq, Nat.reduceAdd, Nat.reduceMul, Int.reduceLE, Int.reduceLT, Int.reduceToNat, Nat.reduceLeDiff, Nat.reduceSub, Int.reduceEq, Nat.reduceBEq, List.replicate, List.set, evB, tyA]; (repeat (with_reducible refine And.intro ?_ ?_; exact sdX)); (with_reducible first | refine awp_id ?_ | refine id_call ?_ | refine id_and ?_ | refine id_ex ?_ | refine id_all ?_ | refine id_nat ?_ | refine id_le ?_))))
  exact awp_ret (ends_plain (.inr rfl) rfl evX)
def stepN (l : List Pr) (lb : List Lab) : StepT := fun S k => stepJ l lb S (k : Int)
def jFin (l : List Pr) (Q : List (List Int)) : List Bool := Q.map fun S => endsJ l S l.length
set_option maxRecDepth 20000 in
set_option maxHeartbeats 64000000 in
theorem c_JOf (f f2 : Bool) (l : List Pr) (lb : List Lab) (hl : l.length ≤ 1000) (hlb : lb.length ≤ 1000) (hg : GoodL lb l.length) (hw : ∀ i, i < l.length → PWf (l.getD i noPr))
    (hM : Contract Try.prog 39 [.sl f (prs l), .sl f2 (tri lb)] (bo true) []) {Q : List (List Int)} (hJ : JA (stepN l lb) lb.length (startsL l) 2000 Q) :
    Contract Try.prog 33 [.sl f (prs l), .sl f2 (tri lb)] (.tup [dfaD lb.length 0 (jFin l Q) (jNx (stepN l lb) lb.length Q), i64 0]) [] := by
  refine contract_of_awpV ttok (rs := [.cell 4 31, .tmp 5]) Try.func33 rfl Try.ntmps33 (by simp) rfl fun E => ?_
  have hF := c_JFirst f l hl
  have hsl := startsL_len l
  have hst := fun s hs k => c_JStep f f2 false l lb s k hl hs hg hw
  have hen := fun s hs => c_JEnds f false l s hl (Nat.le_of_eq (Eq.symm hs)) hw
  have hall := jQ_all (T := stepN l lb) (L := lb.length) (z := startsL l) (P := fun S => S.length = l.length) hsl (fun S k t hS h => by rw [stepJ_len h]; exact hS)
  have hlQ := hJ.lenQ
  have hB := hJ.hB
  have hend := fun {i : Nat} => hJ.end_ (i := i)
  have hltQ := fun {i : Nat} => hJ.ltQ (i := i)
  have hnext := fun {i : Nat} => hJ.next (i := i)
  have hat := fun {i : Nat} => hJ.at_ (i := i)
  have hnum := fun {i k : Nat} => hJ.num (i := i) (k := k)
  have hq0 : jQ (stepN l lb) lb.length (startsL l) 0 = [startsL l] := rfl
  have hsN : ∀ S k, stepN l lb S k = stepJ l lb S (k : Int) := fun _ _ => rfl
  generalize hTE : stepN l lb = T at *
  generalize hLE : lb.length = L at *
  generalize hzE : startsL l = z at *
  have htr1 : iis [z] = [[.sl false (ints z)]] := rfl
  have zi2 : List.replicate L (List.map ofAtom (Value.int IntKind.i64 0).cells.toList) = ints (List.replicate L 0) := by simp only [ints, List.map_replicate]; rfl
  have zi : ∀ n : Nat, List.replicate (n : Int).toNat [D.v (Value.int IntKind.i64 0)] = ints (List.replicate n 0) := fun n => by simp [ints]
  have hzt : List.take z.length z = z := List.take_length
  (repeat (first | refine awp_seq ?_ | refine awp_block ?_ | ((first | refine awp_skip ?_ | refine awp_exit ?_ | refine awp_reg ttok ?_ | (refine awp_draw ttok ?dr_calm ?_; (case dr_calm => decide +kernel)) | refine awp_condM ?_); simp (maxSteps := 4000000) only [↓reduceIte, Nat.reduceLT, Nat.reduceEqDiff, reduceCtorEq, Nat.reduceAdd, Nat.reduceMul, Int.reduceLE, Int.reduceLT, Int.reduceToNat, Nat.reduceLeDiff, Nat.reduceSub, Int.reduceEq, Nat.reduceBEq, List.replicate, List.set, evB, tyA]; (repeat (with_reducible refine And.intro ?_ ?_; exact sdX)); (with_reducible first | refine awp_id ?_ | refine id_call ?_ | refine id_and ?_ | refine id_ex ?_ | refine id_all ?_ | refine id_nat ?_ | refine id_le ?_))))
  refine callVC_scal fnok39 hM rfl ?_
  simp (maxSteps := 4000000) only [↓reduceIte, Nat.reduceLT, Nat.reduceEqDiff, reduceCtorEq, Nat.reduceAdd, Nat.reduceMul, Int.reduceLE, Int.reduceLT, Int.reduceToNat, Nat.reduceLeDiff, Nat.reduceSub, Int.reduceEq, Nat.reduceBEq, List.replicate, List.set, evB, tyA]
  (repeat (with_reducible refine And.intro ?_ ?_; exact sdX))
  (repeat (first | refine awp_seq ?_ | refine awp_block ?_ | ((first | refine awp_skip ?_ | refine awp_exit ?_ | refine awp_reg ttok ?_ | (refine awp_draw ttok ?dr_calm ?_; (case dr_calm => decide +kernel)) | refine awp_condM ?_); simp (maxSteps := 4000000) only [↓reduceIte, Nat.reduceLT, Nat.reduceEqDiff, reduceCtorEq, Nat.reduceAdd, Nat.reduceMul, Int.reduceLE, Int.reduceLT, Int.reduceToNat, Nat.reduceLeDiff, Nat.reduceSub, Int.reduceEq, Nat.reduceBEq, List.replicate, List.set, evB, tyA]; (repeat (with_reducible refine And.intro ?_ ?_; exact sdX)); (with_reducible first | refine awp_id ?_ | refine id_call ?_ | refine id_and ?_ | refine id_ex ?_ | refine id_all ?_ | refine id_nat ?_ | refine id_le ?_))))
  refine callVC_mk fnok35 hF rfl ?_
  simp (maxSteps := 4000000) only [↓reduceIte, Nat.reduceLT, Nat.reduceEqDiff, reduceCtorEq, Nat.reduceAdd, Nat.reduceMul, Int.reduceLE, Int.reduceLT, Int.reduceToNat, Nat.reduceLeDiff, Nat.reduceSub, Int.reduceEq, Nat.reduceBEq, List.replicate, List.set, evB, tyA, ints_len, ints_take, hzt]
  (repeat (with_reducible refine And.intro ?_ ?_; exact sdX))
  (repeat (first | refine awp_seq ?_ | refine awp_block ?_ | ((first | refine awp_skip ?_ | refine awp_exit ?_ | refine awp_reg ttok ?_ | (refine awp_draw ttok ?dr_calm ?_; (case dr_calm => decide +kernel)) | refine awp_condM ?_); simp (maxSteps := 4000000) only [↓reduceIte, Nat.reduceLT, Nat.reduceEqDiff, reduceCtorEq, Nat.reduceAdd, Nat.reduceMul, Int.reduceLE, Int.reduceLT, Int.reduceToNat, Nat.reduceLeDiff, Nat.reduceSub, Int.reduceEq, Nat.reduceBEq, List.replicate, List.set, evB, tyA, ints_len, ints_take, hzt, tri_len, hLE]; (repeat (with_reducible refine And.intro ?_ ?_; exact sdX)); (with_reducible first | refine awp_id ?_ | refine id_call ?_ | refine id_and ?_ | refine id_ex ?_ | refine id_all ?_ | refine id_nat ?_ | refine id_le ?_))))
  refine awp_own_nilC 5003 0 2 80001 1 (by decide) (by simp (maxSteps := 4000000) only [↓reduceIte, Nat.reduceLT, Nat.reduceEqDiff, reduceCtorEq, Nat.reduceAdd, Nat.reduceMul, Int.reduceLE, Int.reduceLT, Int.reduceToNat, Nat.reduceLeDiff, Nat.reduceSub, Int.reduceEq, Nat.reduceBEq, List.replicate, List.set, evB]; rfl) rfl rfl rfl ?_
  refine awp_own_nilC 5003 0 3 80002 1 (by decide) (by simp (maxSteps := 4000000) only [↓reduceIte, Nat.reduceLT, Nat.reduceEqDiff, reduceCtorEq, Nat.reduceAdd, Nat.reduceMul, Int.reduceLE, Int.reduceLT, Int.reduceToNat, Nat.reduceLeDiff, Nat.reduceSub, Int.reduceEq, Nat.reduceBEq, List.replicate, List.set, evB]; rfl) rfl rfl rfl ?_
  refine awp_loop (X := Nat) (fun i => mkS 97 [(0, .sl f (prs l)), (1, .sl f2 (tri lb)), (4, .ptr 1000 0 0), (6, .own 4002 0 (jQ T L z i).length), (7, .ptr 5003 0 0), (8, i64 i)]
      [(1000, { sz := 4, rows := [[i64 0, i64 0, .sl true [], .sl true []]], flat := false }), (4002, { sz := 1, rows := iis (jQ T L z i) }), (5003, { sz := 4, rows := [[i64 L, i64 0, .own 80001 0 i, .own 80002 0 i]], flat := false }), (80001, { sz := 1, rows := bos ((jFin l Q).take i) }), (80002, { sz := 1, rows := iis ((jNx T L Q).take i) })])
    (fun i => i ≤ (jQ T L z i).length) (fun i => 3000 - i) 0 (Nat.zero_le _) (mkS_le rfl ?_ ?_) ?_
  · simp (maxSteps := 4000000) only [↓reduceIte, Nat.reduceLT, Nat.reduceEqDiff, reduceCtorEq, Nat.reduceAdd, Nat.reduceMul, Int.reduceLE, Int.reduceLT, Int.reduceToNat, Nat.reduceLeDiff, Nat.reduceSub, Int.reduceEq, Nat.reduceBEq, List.replicate, List.set, evB, hq0]
    try rfl
  · simp (maxSteps := 4000000) only [↓reduceIte, Nat.reduceLT, Nat.reduceEqDiff, reduceCtorEq, Nat.reduceAdd, Nat.reduceMul, Int.reduceLE, Int.reduceLT, Int.reduceToNat, Nat.reduceLeDiff, Nat.reduceSub, Int.reduceEq, Nat.reduceBEq, List.replicate, List.set, evB, hq0, htr1]
    exact ⟨rfl, rfl⟩
  · intro i hi
    have hik := hB i
    by_cases hlt : i < (jQ T L z i).length
    · have d1 : decide ((i : Int) < ((jQ T L z i).length : Int)) = true := by simpa using hlt
      have hiQ := hltQ hlt
      have hnx := hnext hiQ
      have hnum := fun {k : Nat} => hnum (k := k) hiQ
      have hati := hat hiQ
      have hgq := iis_get hlt
      rw [hati] at hgq
      have hSl := hall i (Q.getD i []) (by rw [← hati]; exact getD_mem hlt [])
      have hrB := fun {j : Nat} => hJ.row hiQ (j := j)
      have hEn := hen _ hSl
      have hst := fun k => hst _ hSl k
      have hNs : (jNx T L Q).take (i + 1) = (jNx T L Q).take i ++ [jNums T Q (Q.getD i []) L] := by
        rw [take_snoc (by unfold jNx; rw [List.length_map]; omega) []]
        unfold jNx
        rw [getD_mapD _ _ [] hiQ]
      have hFs : (jFin l Q).take (i + 1) = (jFin l Q).take i ++ [endsJ l (Q.getD i []) l.length] := by
        rw [take_snoc (by unfold jFin; rw [List.length_map]; omega) false]
        unfold jFin
        rw [getD_mapD _ _ [] hiQ]
      have hNt : ((jNx T L Q).take i).length = i := by rw [List.length_take]; unfold jNx; rw [List.length_map]; omega
      have hFt : ((jFin l Q).take i).length = i := by rw [List.length_take]; unfold jFin; rw [List.length_map]; omega
      have hSt := fun k t (h : T (Q.getD i []) k = some t) => stepJ_len (l := l) (lb := lb) (k := (k : Int)) (by rw [← hsN]; exact h)
      have hqall := hall i
      generalize hqE : jQ T L z i = q at *
      generalize hSE : Q.getD i [] = S at *
      (repeat (first | refine awp_seq ?_ | refine awp_block ?_ | ((first | refine awp_skip ?_ | refine awp_exit ?_ | refine awp_reg ttok ?_ | (refine awp_draw ttok ?dr_calm ?_; (case dr_calm => decide +kernel)) | refine awp_condM ?_); simp (maxSteps := 4000000) only [↓reduceIte, Nat.reduceLT, Nat.reduceEqDiff, reduceCtorEq, Nat.reduceAdd, Nat.reduceMul, Int.reduceLE, Int.reduceLT, Int.reduceToNat, Nat.reduceLeDiff, Nat.reduceSub, Int.reduceEq, Nat.reduceBEq, List.replicate, List.set, evB, tyA, d1, iis_len, zi, zi2, ints_len, tri_len, hLE]; (repeat (with_reducible refine And.intro ?_ ?_; exact sdX)); (with_reducible first | refine awp_id ?_ | refine id_call ?_ | refine id_and ?_ | refine id_ex ?_ | refine id_all ?_ | refine id_nat ?_ | refine id_le ?_))))
      refine awp_loop (X := Nat) (fun j => mkS 97 [(0, .sl f (prs l)), (1, .sl f2 (tri lb)), (4, .ptr 1000 0 0), (6, .own 4002 0 (jRow T S q j).length), (7, .ptr 5003 0 0), (8, i64 i), (9, .own 9002 0 L), (34, i64 L), (35, i64 j)]
          [(1000, { sz := 4, rows := [[i64 0, i64 0, .sl true [], .sl true []]], flat := false }), (4002, { sz := 1, rows := iis (jRow T S q j) }), (5003, { sz := 4, rows := [[i64 L, i64 0, .own 80001 0 i, .own 80002 0 i]], flat := false }), (80001, { sz := 1, rows := bos ((jFin l Q).take i) }), (80002, { sz := 1, rows := iis ((jNx T L Q).take i) }), (9002, { sz := 1, rows := ints (jLay (jNum T Q S) L j) })])
        (fun j => j ≤ L) (fun j => L - j) 0 (Nat.zero_le _) (mkS_le rfl ?_ ?_) ?_
      · simp (maxSteps := 4000000) only [↓reduceIte, Nat.reduceLT, Nat.reduceEqDiff, reduceCtorEq, Nat.reduceAdd, Nat.reduceMul, Int.reduceLE, Int.reduceLT, Int.reduceToNat, Nat.reduceLeDiff, Nat.reduceSub, Int.reduceEq, Nat.reduceBEq, List.replicate, List.set, evB, jRow]
        try rfl
      · simp (maxSteps := 4000000) only [↓reduceIte, Nat.reduceLT, Nat.reduceEqDiff, reduceCtorEq, Nat.reduceAdd, Nat.reduceMul, Int.reduceLE, Int.reduceLT, Int.reduceToNat, Nat.reduceLeDiff, Nat.reduceSub, Int.reduceEq, Nat.reduceBEq, List.replicate, List.set, evB, jRow, jLay_zero, zi2, zi]
        try rfl
      · intro j hj
        have hll := jLay_len (jNum T Q S) hj
        obtain ⟨v, hv⟩ := hrB hj
        have hlr : (jRow T S q j).length ≤ 2000 := by rw [hv, List.length_append] at hlQ; omega
        obtain ⟨v0, hv0⟩ := jRow_pre T S q 0 j
        rw [Nat.zero_add] at hv0
        have hgp : (iis (jRow T S q j)).getD i [] = [.sl false (ints S)] := by
          rw [hv0, ← iis_app, getD_app_lt (by rw [iis_len]; exact hlt)]
          exact hgq
        have hip : i < (jRow T S q j).length := by
          rw [hv0, List.length_append]
          have : (jRow T S q 0).length = q.length := rfl
          omega
        by_cases hjlt : j < L
        · have d2 : decide ((j : Int) < (L : Int)) = true := by simpa using hjlt
          have hwj : IntKind.i64.wrap ((j : Int) + 1) = ((j + 1 : Nat) : Int) := i64_in (by omega) (by omega)
          have hc := hst (j : Int)
          rw [← hsN] at hc
          have hrs : jRow T S q (j + 1) = addT (jRow T S q j) (T S j) := rfl
          have hset := jLay_set (jNum T Q S) hjlt
          have hpl : ∀ x ∈ jRow T S q j, x.length = l.length := jRow_all (P := fun x => x.length = l.length) (fun k t h => by rw [hSt k t h]; exact hSl) hqall j
          have hnj := fun t => hnum hjlt (t := t)
          rw [hrs] at hnj
          generalize jLay (jNum T Q S) L j = ro at *
          generalize jRow T S q j = p at *
          have hs1 : List.set (ints ro) j [D.v (Value.int IntKind.i64 (-1))] = ints (ro.set j (-1)) := by simp [ints]
          have hs2 : ∀ x y : Int, List.set (ints (ro.set j x)) j [D.v (Value.int IntKind.i64 y)] = ints (ro.set j y) := fun x y => by simp [ints]
          have hs3 : ∀ x : Int, (ints (ro.set j x)).getD j [] = [i64 x] := fun x => by rw [ints_get (by simp; omega)]; simp [List.getD, hll, hjlt]
          have hro := ints_get (l := ro) (i := j) (by omega)
          have hrl : ∀ x : Int, (ro.set j x).length = L := fun x => by rw [List.length_set]; exact hll
          have hpt : List.take p.length p = p := List.take_of_length_le (Nat.le_refl _)
          have hr2 : ∀ z : List Int, (∀ row ∈ [[D.sl false (ints z)]], row.length = 1) = True := fun z => by simp
          (repeat (first | refine awp_seq ?_ | refine awp_block ?_ | ((first | refine awp_skip ?_ | refine awp_exit ?_ | refine awp_reg ttok ?_ | (refine awp_draw ttok ?dr_calm ?_; (case dr_calm => decide +kernel)) | refine awp_condM ?_); simp (maxSteps := 4000000) only [↓reduceIte, Nat.reduceLT, Nat.reduceEqDiff, reduceCtorEq, Nat.reduceAdd, Nat.reduceMul, Int.reduceLE, Int.reduceLT, Int.reduceToNat, Nat.reduceLeDiff, Nat.reduceSub, Int.reduceEq, Nat.reduceBEq, List.replicate, List.set, evB, tyA, d2, hgp, ints_len, iis_len, hll, hro, hs1]; (repeat (with_reducible refine And.intro ?_ ?_; exact sdX)); (with_reducible first | refine awp_id ?_ | refine id_call ?_ | refine id_and ?_ | refine id_ex ?_ | refine id_all ?_ | refine id_nat ?_ | refine id_le ?_))))
          refine callVC_mk fnok38 hc rfl ?_
          cases hto : T S j with
          | none =>
            have hjn : jNum T Q S j = -1 := by unfold jNum; rw [hto]
            rw [hjn] at hset
            rw [hto, addT] at hrs
            simp (maxSteps := 4000000) only [↓reduceIte, Nat.reduceLT, Nat.reduceEqDiff, reduceCtorEq, Nat.reduceAdd, Nat.reduceMul, Int.reduceLE, Int.reduceLT, Int.reduceToNat, Nat.reduceLeDiff, Nat.reduceSub, Int.reduceEq, Nat.reduceBEq, List.replicate, List.set, evB, tyA, toJD]
            (repeat (with_reducible refine And.intro ?_ ?_; exact sdX))
            (repeat (first | refine awp_seq ?_ | refine awp_block ?_ | ((first | refine awp_skip ?_ | refine awp_exit ?_ | refine awp_reg ttok ?_ | (refine awp_draw ttok ?dr_calm ?_; (case dr_calm => decide +kernel)) | refine awp_condM ?_); simp (maxSteps := 4000000) only [↓reduceIte, Nat.reduceLT, Nat.reduceEqDiff, reduceCtorEq, Nat.reduceAdd, Nat.reduceMul, Int.reduceLE, Int.reduceLT, Int.reduceToNat, Nat.reduceLeDiff, Nat.reduceSub, Int.reduceEq, Nat.reduceBEq, List.replicate, List.set, evB, tyA, hwj]; (repeat (with_reducible refine And.intro ?_ ?_; exact sdX)); (with_reducible first | refine awp_id ?_ | refine id_call ?_ | refine id_and ?_ | refine id_ex ?_ | refine id_all ?_ | refine id_nat ?_ | refine id_le ?_))))
            refine ⟨j + 1, by omega, by omega, mkS_le rfl ?_ ?_⟩
            · simp (maxSteps := 4000000) only [↓reduceIte, Nat.reduceLT, Nat.reduceEqDiff, reduceCtorEq, Nat.reduceAdd, Nat.reduceMul, Int.reduceLE, Int.reduceLT, Int.reduceToNat, Nat.reduceLeDiff, Nat.reduceSub, Int.reduceEq, Nat.reduceBEq, List.replicate, List.set, evB, hrs]
            · simp (maxSteps := 4000000) only [↓reduceIte, Nat.reduceLT, Nat.reduceEqDiff, reduceCtorEq, Nat.reduceAdd, Nat.reduceMul, Int.reduceLE, Int.reduceLT, Int.reduceToNat, Nat.reduceLeDiff, Nat.reduceSub, Int.reduceEq, Nat.reduceBEq, List.replicate, List.set, evB, hrs, hset, hs1]
          | some t =>
            have htl := hSt j t hto
            have hjn := hnj t hto
            rw [hto] at hjn hrs
            rw [hjn] at hset
            have hIx := c_IdxII 65 [.sl false (ints t)] fnok65 (fun x => x == t) false p (by omega) (fun x hx => c_JOf1 x t false (by have := hpl x hx; omega) (by omega))
            rw [idxP_of, Nat.zero_add, ← (show List.take p.length (iis p) = iis p by rw [iis_take, hpt])] at hIx
            simp (maxSteps := 4000000) only [↓reduceIte, Nat.reduceLT, Nat.reduceEqDiff, reduceCtorEq, Nat.reduceAdd, Nat.reduceMul, Int.reduceLE, Int.reduceLT, Int.reduceToNat, Nat.reduceLeDiff, Nat.reduceSub, Int.reduceEq, Nat.reduceBEq, List.replicate, List.set, evB, tyA, toJD]
            (repeat (with_reducible refine And.intro ?_ ?_; exact sdX))
            (repeat (first | refine awp_seq ?_ | refine awp_block ?_ | ((first | refine awp_skip ?_ | refine awp_exit ?_ | refine awp_reg ttok ?_ | (refine awp_draw ttok ?dr_calm ?_; (case dr_calm => decide +kernel)) | refine awp_condM ?_); simp (maxSteps := 4000000) only [↓reduceIte, Nat.reduceLT, Nat.reduceEqDiff, reduceCtorEq, Nat.reduceAdd, Nat.reduceMul, Int.reduceLE, Int.reduceLT, Int.reduceToNat, Nat.reduceLeDiff, Nat.reduceSub, Int.reduceEq, Nat.reduceBEq, List.replicate, List.set, evB, tyA]; (repeat (with_reducible refine And.intro ?_ ?_; exact sdX)); (with_reducible first | refine awp_id ?_ | refine id_call ?_ | refine id_and ?_ | refine id_ex ?_ | refine id_all ?_ | refine id_nat ?_ | refine id_le ?_))))
            refine callVC_scal fnok64 hIx rfl ?_ (hp := ⟨Nat.le_of_eq (iis_len p).symm, ⟨⟨⟨⟨trivial, trivial⟩, trivial⟩, Nat.zero_lt_one⟩, trivial⟩, trivial⟩)
            cases hcn : p.contains t
            · have hadd : addT p (some t) = p ++ [t] := by simp only [addT, addQ]; rw [hcn, if_neg (by simp)]
              have hix : (p ++ [t]).idxOf t = p.length := by
                rw [List.idxOf_append, if_neg (by simpa using hcn)]
                simp
              rw [hadd] at hrs hset
              rw [hix] at hset
              have k1 : decide ((-1 : Int) < 0) = true := rfl
              simp only [Bool.false_eq_true, if_false]
              simp (maxSteps := 4000000) only [↓reduceIte, Nat.reduceLT, Nat.reduceEqDiff, reduceCtorEq, Nat.reduceAdd, Nat.reduceMul, Int.reduceLE, Int.reduceLT, Int.reduceToNat, Nat.reduceLeDiff, Nat.reduceSub, Int.reduceEq, Nat.reduceBEq, List.replicate, List.set, evB, tyA, hs2, ints_len, hrl]
              (repeat (with_reducible refine And.intro ?_ ?_; exact sdX))
              (repeat (first | refine awp_seq ?_ | refine awp_block ?_ | ((first | refine awp_skip ?_ | refine awp_exit ?_ | refine awp_reg ttok ?_ | (refine awp_draw ttok ?dr_calm ?_; (case dr_calm => decide +kernel)) | refine awp_condM ?_); simp (maxSteps := 4000000) only [↓reduceIte, Nat.reduceLT, Nat.reduceEqDiff, reduceCtorEq, Nat.reduceAdd, Nat.reduceMul, Int.reduceLE, Int.reduceLT, Int.reduceToNat, Nat.reduceLeDiff, Nat.reduceSub, Int.reduceEq, Nat.reduceBEq, List.replicate, List.set, evB, tyA, hs2, hs3, ints_len, hrl, k1, iis_len, iis_take, hpt, hr2, hwj]; (repeat (with_reducible refine And.intro ?_ ?_; exact sdX)); (with_reducible first | refine awp_id ?_ | refine id_call ?_ | refine id_and ?_ | refine id_ex ?_ | refine id_all ?_ | refine id_nat ?_ | refine id_le ?_))))
              refine ⟨j + 1, by omega, by omega, mkS_le rfl ?_ ?_⟩
              · simp (maxSteps := 4000000) only [↓reduceIte, Nat.reduceLT, Nat.reduceEqDiff, reduceCtorEq, Nat.reduceAdd, Nat.reduceMul, Int.reduceLE, Int.reduceLT, Int.reduceToNat, Nat.reduceLeDiff, Nat.reduceSub, Int.reduceEq, Nat.reduceBEq, List.replicate, List.set, evB, hrs, List.length_append]
                try rfl
              · simp (maxSteps := 4000000) only [↓reduceIte, Nat.reduceLT, Nat.reduceEqDiff, reduceCtorEq, Nat.reduceAdd, Nat.reduceMul, Int.reduceLE, Int.reduceLT, Int.reduceToNat, Nat.reduceLeDiff, Nat.reduceSub, Int.reduceEq, Nat.reduceBEq, List.replicate, List.set, evB, hrs, List.length_append, hset, hs2, iis_take, hpt, iis_one, iis_app]
            · have hadd : addT p (some t) = p := by simp only [addT, addQ]; rw [hcn, if_pos rfl]
              rw [hadd] at hrs hset
              have k1 : decide (((p.idxOf t : Nat) : Int) < 0) = false := by simp
              simp only [if_true]
              simp (maxSteps := 4000000) only [↓reduceIte, Nat.reduceLT, Nat.reduceEqDiff, reduceCtorEq, Nat.reduceAdd, Nat.reduceMul, Int.reduceLE, Int.reduceLT, Int.reduceToNat, Nat.reduceLeDiff, Nat.reduceSub, Int.reduceEq, Nat.reduceBEq, List.replicate, List.set, evB, tyA, hs2, ints_len, hrl]
              (repeat (with_reducible refine And.intro ?_ ?_; exact sdX))
              (repeat (first | refine awp_seq ?_ | refine awp_block ?_ | ((first | refine awp_skip ?_ | refine awp_exit ?_ | refine awp_reg ttok ?_ | (refine awp_draw ttok ?dr_calm ?_; (case dr_calm => decide +kernel)) | refine awp_condM ?_); simp (maxSteps := 4000000) only [↓reduceIte, Nat.reduceLT, Nat.reduceEqDiff, reduceCtorEq, Nat.reduceAdd, Nat.reduceMul, Int.reduceLE, Int.reduceLT, Int.reduceToNat, Nat.reduceLeDiff, Nat.reduceSub, Int.reduceEq, Nat.reduceBEq, List.replicate, List.set, evB, tyA, hs2, hs3, ints_len, hrl, k1, hwj]; (repeat (with_reducible refine And.intro ?_ ?_; exact sdX)); (with_reducible first | refine awp_id ?_ | refine id_call ?_ | refine id_and ?_ | refine id_ex ?_ | refine id_all ?_ | refine id_nat ?_ | refine id_le ?_))))
              refine ⟨j + 1, by omega, by omega, mkS_le rfl ?_ ?_⟩
              · simp (maxSteps := 4000000) only [↓reduceIte, Nat.reduceLT, Nat.reduceEqDiff, reduceCtorEq, Nat.reduceAdd, Nat.reduceMul, Int.reduceLE, Int.reduceLT, Int.reduceToNat, Nat.reduceLeDiff, Nat.reduceSub, Int.reduceEq, Nat.reduceBEq, List.replicate, List.set, evB, hrs]
                try rfl
              · simp (maxSteps := 4000000) only [↓reduceIte, Nat.reduceLT, Nat.reduceEqDiff, reduceCtorEq, Nat.reduceAdd, Nat.reduceMul, Int.reduceLE, Int.reduceLT, Int.reduceToNat, Nat.reduceLeDiff, Nat.reduceSub, Int.reduceEq, Nat.reduceBEq, List.replicate, List.set, evB, hrs, hset, hs2]
        · have d2 : decide ((j : Int) < (L : Int)) = false := by simpa using hjlt
          obtain rfl : L = j := by omega
          rw [← hnx] at hlr hgp hip ⊢
          rw [jLay_all] at hll ⊢
          have hjn : (List.range L).map (jNum T Q S) = jNums T Q S L := rfl
          rw [hjn] at hll ⊢
          obtain ⟨p, hpE⟩ : ∃ p, jQ T L z (i + 1) = p := ⟨_, rfl⟩
          rw [hpE] at hlr hgp hip ⊢
          have e2k : decide ((p.length : Int) > 2000) = false := by simp; omega
          have hwi : IntKind.i64.wrap ((i : Int) + 1) = ((i + 1 : Nat) : Int) := i64_in (by omega) (by omega)
          generalize jNums T Q S L = row at *
          have hft : List.take L row = row := List.take_of_length_le (by omega)
          have hr2 : ∀ z : List Int, (∀ row ∈ [[D.sl false (ints z)]], row.length = 1) = True := fun z => by simp
          have hr3 : ∀ z : Bool, (∀ row ∈ [[bo z]], row.length = 1) = True := fun z => by simp
          refine awp_pure 9 (d := .own 9002 0 L) evX (by simp (maxSteps := 4000000) only [↓reduceIte, Nat.reduceLT, Nat.reduceEqDiff, reduceCtorEq, Nat.reduceAdd, Nat.reduceMul, Int.reduceLE, Int.reduceLT, Int.reduceToNat, Nat.reduceLeDiff, Nat.reduceSub, Int.reduceEq, Nat.reduceBEq, List.replicate, List.set, evB]; rfl) (by simp (maxSteps := 4000000) only [↓reduceIte, Nat.reduceLT, Nat.reduceEqDiff, reduceCtorEq, Nat.reduceAdd, Nat.reduceMul, Int.reduceLE, Int.reduceLT, Int.reduceToNat, Nat.reduceLeDiff, Nat.reduceSub, Int.reduceEq, Nat.reduceBEq, List.replicate, List.set, evB, ints_len, hll]) ?_
          (repeat (first | refine awp_seq ?_ | refine awp_block ?_ | ((first | refine awp_skip ?_ | refine awp_exit ?_ | refine awp_reg ttok ?_ | (refine awp_draw ttok ?dr_calm ?_; (case dr_calm => decide +kernel)) | refine awp_condM ?_); simp (maxSteps := 4000000) only [↓reduceIte, Nat.reduceLT, Nat.reduceEqDiff, reduceCtorEq, Nat.reduceAdd, Nat.reduceMul, Int.reduceLE, Int.reduceLT, Int.reduceToNat, Nat.reduceLeDiff, Nat.reduceSub, Int.reduceEq, Nat.reduceBEq, List.replicate, List.set, evB, tyA, d2, e2k, iis_len, ints_take, hft, iis_take, iis_row, hNt, hr2]; (repeat (with_reducible refine And.intro ?_ ?_; exact sdX)); (with_reducible first | refine awp_id ?_ | refine id_call ?_ | refine id_and ?_ | refine id_ex ?_ | refine id_all ?_ | refine id_nat ?_ | refine id_le ?_))))
          refine awp_drawG ttok ((0, none) :: (1, none) :: (2, none) :: (3, none) :: (4, none) :: (5, none) :: (6, none) :: (7, some [0, 1]) :: (8, some [0, 1]) :: (9, some []) :: (10, none) :: (11, some []) :: []) ([]) ([]) (by decide +kernel) fun O hO => ?_; simp only [OpsAre, Nat.reduceAdd, and_true, List.toList_toArray, List.append_eq, List.cons_append, List.nil_append] at hO; simp (maxSteps := 4000000) only [↓reduceIte, Nat.reduceLT, Nat.reduceEqDiff, reduceCtorEq, Nat.reduceAdd, Nat.reduceMul, Int.reduceLE, Int.reduceLT, Int.reduceToNat, Nat.reduceLeDiff, Nat.reduceSub, Int.reduceEq, Nat.reduceBEq, List.replicate, List.set, evB, tyA, hO, hgp, iis_len, bos_len, bos_take, hFt, hr3]; (repeat (with_reducible refine And.intro ?_ ?_; exact sdX))
          refine callVC_scal fnok36 hEn rfl ?_
          simp (maxSteps := 4000000) only [↓reduceIte, Nat.reduceLT, Nat.reduceEqDiff, reduceCtorEq, Nat.reduceAdd, Nat.reduceMul, Int.reduceLE, Int.reduceLT, Int.reduceToNat, Nat.reduceLeDiff, Nat.reduceSub, Int.reduceEq, Nat.reduceBEq, List.replicate, List.set, evB, tyA, hO, bos_len, bos_take, hFt, hr3]
          (repeat (with_reducible refine And.intro ?_ ?_; exact sdX))
          (repeat (first | refine awp_seq ?_ | refine awp_block ?_ | ((first | refine awp_skip ?_ | refine awp_exit ?_ | refine awp_reg ttok ?_ | (refine awp_draw ttok ?dr_calm ?_; (case dr_calm => decide +kernel)) | refine awp_condM ?_); simp (maxSteps := 4000000) only [↓reduceIte, Nat.reduceLT, Nat.reduceEqDiff, reduceCtorEq, Nat.reduceAdd, Nat.reduceMul, Int.reduceLE, Int.reduceLT, Int.reduceToNat, Nat.reduceLeDiff, Nat.reduceSub, Int.reduceEq, Nat.reduceBEq, List.replicate, List.set, evB, tyA, hwi]; (repeat (with_reducible refine And.intro ?_ ?_; exact sdX)); (with_reducible first | refine awp_id ?_ | refine id_call ?_ | refine id_and ?_ | refine id_ex ?_ | refine id_all ?_ | refine id_nat ?_ | refine id_le ?_))))
          refine ⟨i + 1, by rw [hpE]; omega, by omega, mkS_le rfl ?_ ?_⟩
          · simp (maxSteps := 4000000) only [↓reduceIte, Nat.reduceLT, Nat.reduceEqDiff, reduceCtorEq, Nat.reduceAdd, Nat.reduceMul, Int.reduceLE, Int.reduceLT, Int.reduceToNat, Nat.reduceLeDiff, Nat.reduceSub, Int.reduceEq, Nat.reduceBEq, List.replicate, List.set, evB, hpE]
          · simp (maxSteps := 4000000) only [↓reduceIte, Nat.reduceLT, Nat.reduceEqDiff, reduceCtorEq, Nat.reduceAdd, Nat.reduceMul, Int.reduceLE, Int.reduceLT, Int.reduceToNat, Nat.reduceLeDiff, Nat.reduceSub, Int.reduceEq, Nat.reduceBEq, List.replicate, List.set, evB, hpE, bos_take, bos_app, bos_one, hFs, iis_take, iis_app, iis_one, hNs, hFt, hNt]
    · have d1 : decide ((i : Int) < ((jQ T L z i).length : Int)) = false := by simpa using hlt
      have hQe := hend (i := i) hlt (by omega)
      rw [hQe] at hi hlt d1 hik ⊢
      have hei : i = Q.length := by omega
      have hQl : (jNx T L Q).length = Q.length := by simp [jNx]
      have hQf : (jFin l Q).length = Q.length := by simp [jFin]
      have hNt : (jNx T L Q).take i = jNx T L Q := List.take_of_length_le (by omega)
      have hFt : (jFin l Q).take i = jFin l Q := List.take_of_length_le (by omega)
      rw [hNt, hFt]
      rw [← hei] at hQl hQf
      refine awp_pureO 5003 (by simp (maxSteps := 4000000) only [↓reduceIte, Nat.reduceLT, Nat.reduceEqDiff, reduceCtorEq, Nat.reduceAdd, Nat.reduceMul, Int.reduceLE, Int.reduceLT, Int.reduceToNat, Nat.reduceLeDiff, Nat.reduceSub, Int.reduceEq, Nat.reduceBEq, List.replicate, List.set, evB]; rfl) rfl (by simp (maxSteps := 4000000) only [↓reduceIte, Nat.reduceLT, Nat.reduceEqDiff, reduceCtorEq, Nat.reduceAdd, Nat.reduceMul, Int.reduceLE, Int.reduceLT, Int.reduceToNat, Nat.reduceLeDiff, Nat.reduceSub, Int.reduceEq, Nat.reduceBEq, List.replicate, List.set, evB, bos_len, bos_take, iis_len, iis_take, hFt, hNt, hQl, hQf]; rfl) (by simp (maxSteps := 4000000) only [↓reduceIte, Nat.reduceLT, Nat.reduceEqDiff, reduceCtorEq, Nat.reduceAdd, Nat.reduceMul, Int.reduceLE, Int.reduceLT, Int.reduceToNat, Nat.reduceLeDiff, Nat.reduceSub, Int.reduceEq, Nat.reduceBEq, List.replicate, List.set, evB, bos_len, iis_len, hQl, hQf]) (by decide) ?_
      (repeat (first | refine awp_seq ?_ | refine awp_block ?_ | ((first | refine awp_skip ?_ | refine awp_exit ?_ | refine awp_reg ttok ?_ | (refine awp_draw ttok ?dr_calm ?_; (case dr_calm => decide +kernel)) | refine awp_condM ?_); simp (maxSteps := 4000000) only [↓reduceIte, Nat.reduceLT, Nat.reduceEqDiff, reduceCtorEq, Nat.reduceAdd, Nat.reduceMul, Int.reduceLE, Int.reduceLT, Int.reduceToNat, Nat.reduceLeDiff, Nat.reduceSub, Int.reduceEq, Nat.reduceBEq, List.replicate, List.set, evB, tyA, d1, iis_len]; (repeat (with_reducible refine And.intro ?_ ?_; exact sdX)); (with_reducible first | refine awp_id ?_ | refine id_call ?_ | refine id_and ?_ | refine id_ex ?_ | refine id_all ?_ | refine id_nat ?_ | refine id_le ?_))))
      exact awp_ret (endsV [] (.inr rfl) (by simp (maxSteps := 4000000) only [↓reduceIte, Nat.reduceLT, Nat.reduceEqDiff, reduceCtorEq, Nat.reduceAdd, Nat.reduceMul, Int.reduceLE, Int.reduceLT, Int.reduceToNat, Nat.reduceLeDiff, Nat.reduceSub, Int.reduceEq, Nat.reduceBEq, List.replicate, List.set, evB, tyA, dfaD]; rfl) trivial evX)
theorem JA.of_stop {T : StepT} {L n i0 : Nat} {z : List Int} (h : ¬ i0 < (jQ T L z i0).length) (hlen : (jQ T L z i0).length ≤ n) (hn : i0 ≤ n) : JA T L z n (jQ T L z i0) := by
  refine ⟨fun i => ?_, ?_⟩
  · by_cases hi : i0 ≤ i
    · have := jQ_stop h (i - i0)
      rw [show i0 + (i - i0) = i by omega] at this
      rw [this]; exact hlen
    · obtain ⟨u, hu⟩ := jQ_pre T L z i (i0 - i)
      rw [show i + (i0 - i) = i0 by omega] at hu
      rw [hu, List.length_append] at hlen
      omega
  · have := jQ_stop h (n - i0)
    rw [show i0 + (n - i0) = n by omega] at this
    rw [this]
def l27 : List Pr := firstP g24 2
theorem v27q : jQ (stepN l27 lb24) 1 (startsL l27) 2 = [[0, 0], [1, 1]] := by decide +kernel
theorem ja27 : JA (stepN l27 lb24) lb24.length (startsL l27) 2000 [[0, 0], [1, 1]] := by
  have := JA.of_stop (T := stepN l27 lb24) (L := 1) (n := 2000) (z := startsL l27) (i0 := 2) (by rw [v27q]; decide) (by rw [v27q]; decide) (by decide)
  rw [v27q] at this
  exact this
theorem v27f : jFin l27 [[0, 0], [1, 1]] = [false, true] := by decide +kernel
theorem v27n : jNx (stepN l27 lb24) 1 [[0, 0], [1, 1]] = [[1], [-1]] := by decide +kernel
theorem v27y : folJ l27 lb24 [0] = true := by decide +kernel
theorem v27z : folJ l27 lb24 [] = false := by decide +kernel
theorem good27 : GoodL lb24 l27.length := fun k hk => by
  have hk0 : k = 0 := by
    have : lb24.length = 1 := rfl
    omega
  subst hk0
  exact ⟨0, 1, by decide, by decide, by decide, rfl, rfl⟩
theorem wf27 : ∀ i, i < l27.length → PWf (l27.getD i noPr) := fun i hi => by
  match i, hi with
  | 0, _ => exact wf24 1 0
  | 1, _ => exact wf24 2 1
set_option maxHeartbeats 16000000 in
theorem c_awake27 : Contract Try.prog 32 [] (bo true) [] := by
  refine contract_of_awp (rs := [0]) Try.func32 rfl Try.ntmps32 (by simp) rfl fun E => ?_
  have hM := c_JMay (lb := lb24) (by decide) 2 (by decide) ok24 false false
  have hOf := c_JOf false false l27 lb24 (by decide) (by decide) good27 wf27 hM ja27
  rw [show lb24.length = 1 from rfl, v27f, v27n] at hOf
  have hY := c_JFollows false false false l27 lb24 [0] (by decide) good27 wf27 (by decide)
  have hZ := fun h => c_JFollows false false h l27 lb24 [] (by decide) good27 wf27 (by decide)
  rw [v27y] at hY
  rw [v27z] at hZ
  have hp2 : prs l27 = [prC (x24 1 0), prC (x24 2 1)] := rfl
  rw [hp2] at hOf hY hZ
  have hp3 : prs (firstP g24 2) = [prC (x24 1 0), prC (x24 2 1)] := rfl
  rw [hp3] at hM
  have k1 : ((0 : Int) == 0) = true := rfl
  have k2 : (((2 : Nat) : Int) == 2) = true := rfl
  have hl0 : (iis [[1], [-1]]).length = 2 := rfl
  (repeat (first | refine awp_seq ?_ | refine awp_block ?_ | ((first | refine awp_skip ?_ | refine awp_exit ?_ | refine awp_reg ttok ?_ | (refine awp_draw ttok ?dr_calm ?_; (case dr_calm => decide +kernel)) | refine awp_condM ?_); simp (maxSteps := 4000000) only [↓reduceIte, Nat.reduceLT, Nat.reduceEqDiff, reduceCtorEq, Nat.reduceAdd, Nat.reduceMul, Int.reduceLE, Int.reduceLT, Int.reduceToNat, Nat.reduceLeDiff, Nat.reduceSub, Int.reduceEq, Nat.reduceBEq, List.replicate, List.set, evB, tyA]; (repeat (with_reducible refine And.intro ?_ ?_; exact sdX)); (with_reducible first | refine awp_id ?_ | refine id_call ?_ | refine id_and ?_ | refine id_ex ?_ | refine id_all ?_ | refine id_nat ?_ | refine id_le ?_))))
  refine callVC_mk fnok33 hOf rfl ?_
  simp (maxSteps := 4000000) only [↓reduceIte, Nat.reduceLT, Nat.reduceEqDiff, reduceCtorEq, Nat.reduceAdd, Nat.reduceMul, Int.reduceLE, Int.reduceLT, Int.reduceToNat, Nat.reduceLeDiff, Nat.reduceSub, Int.reduceEq, Nat.reduceBEq, List.replicate, List.set, evB, tyA, dfaD]
  (repeat (with_reducible refine And.intro ?_ ?_; exact sdX))
  (repeat (first | refine awp_seq ?_ | refine awp_block ?_ | ((first | refine awp_skip ?_ | refine awp_exit ?_ | refine awp_reg ttok ?_ | (refine awp_draw ttok ?dr_calm ?_; (case dr_calm => decide +kernel)) | refine awp_condM ?_); simp (maxSteps := 4000000) only [↓reduceIte, Nat.reduceLT, Nat.reduceEqDiff, reduceCtorEq, Nat.reduceAdd, Nat.reduceMul, Int.reduceLE, Int.reduceLT, Int.reduceToNat, Nat.reduceLeDiff, Nat.reduceSub, Int.reduceEq, Nat.reduceBEq, List.replicate, List.set, evB, tyA, k1, k2, hl0]; (repeat (with_reducible refine And.intro ?_ ?_; exact sdX)); (with_reducible first | refine awp_id ?_ | refine id_call ?_ | refine id_and ?_ | refine id_ex ?_ | refine id_all ?_ | refine id_nat ?_ | refine id_le ?_))))
  refine callVC_scal fnok40 hY rfl ?_
  simp (maxSteps := 4000000) only [↓reduceIte, Nat.reduceLT, Nat.reduceEqDiff, reduceCtorEq, Nat.reduceAdd, Nat.reduceMul, Int.reduceLE, Int.reduceLT, Int.reduceToNat, Nat.reduceLeDiff, Nat.reduceSub, Int.reduceEq, Nat.reduceBEq, List.replicate, List.set, evB, tyA, k1, k2]
  (repeat (with_reducible refine And.intro ?_ ?_; exact sdX))
  refine callVC_scal fnok40 (hZ true) rfl ?_
  simp (maxSteps := 4000000) only [↓reduceIte, Nat.reduceLT, Nat.reduceEqDiff, reduceCtorEq, Nat.reduceAdd, Nat.reduceMul, Int.reduceLE, Int.reduceLT, Int.reduceToNat, Nat.reduceLeDiff, Nat.reduceSub, Int.reduceEq, Nat.reduceBEq, List.replicate, List.set, evB, tyA, k1, k2]
  (repeat (with_reducible refine And.intro ?_ ?_; exact sdX))
  refine callVC_scal fnok39 hM rfl ?_
  simp (maxSteps := 4000000) only [↓reduceIte, Nat.reduceLT, Nat.reduceEqDiff, reduceCtorEq, Nat.reduceAdd, Nat.reduceMul, Int.reduceLE, Int.reduceLT, Int.reduceToNat, Nat.reduceLeDiff, Nat.reduceSub, Int.reduceEq, Nat.reduceBEq, List.replicate, List.set, evB, tyA]
  (repeat (with_reducible refine And.intro ?_ ?_; exact sdX))
  (repeat (first | refine awp_seq ?_ | refine awp_block ?_ | ((first | refine awp_skip ?_ | refine awp_exit ?_ | refine awp_reg ttok ?_ | (refine awp_draw ttok ?dr_calm ?_; (case dr_calm => decide +kernel)) | refine awp_condM ?_); simp (maxSteps := 4000000) only [↓reduceIte, Nat.reduceLT, Nat.reduceEqDiff, reduceCtorEq, Nat.reduceAdd, Nat.reduceMul, Int.reduceLE, Int.reduceLT, Int.reduceToNat, Nat.reduceLeDiff, Nat.reduceSub, Int.reduceEq, Nat.reduceBEq, List.replicate, List.set, evB, tyA]; (repeat (with_reducible refine And.intro ?_ ?_; exact sdX)); (with_reducible first | refine awp_id ?_ | refine id_call ?_ | refine id_and ?_ | refine id_ex ?_ | refine id_all ?_ | refine id_nat ?_ | refine id_le ?_))))
  exact awp_ret (ends_plain (.inr rfl) rfl evX)
theorem good5 (n : Nat) : GoodL (fix5.take n) 3 := fun k hk => by
  have hk5 : k < 5 ∧ k < n := by
    have : (fix5.take n).length = min n 5 := by simp [fix5]
    omega
  have e : (fix5.take n).getD k (0, 0, 0) = fix5.getD k (0, 0, 0) := by
    simp [List.getD, List.getElem?_take, hk5.2]
  rw [e]
  match k, hk5.1 with
  | 0, _ => exact ⟨0, 1, by decide, by decide, by decide, rfl, rfl⟩
  | 1, _ => exact ⟨0, 1, by decide, by decide, by decide, rfl, rfl⟩
  | 2, _ => exact ⟨0, 2, by decide, by decide, by decide, rfl, rfl⟩
  | 3, _ => exact ⟨1, 0, by decide, by decide, by decide, rfl, rfl⟩
  | 4, _ => exact ⟨2, 1, by decide, by decide, by decide, rfl, rfl⟩
theorem goodL_labP (z : Int) : GoodL (labP z) 3 := good5 _
theorem firstP_wf {lb : List Lab} {st : Nat} {F : List Bool} {N : List (List Int)} {g : Int → Pr} (hg : ∀ p, POk lb st F N p (g p)) (n : Nat) : ∀ i, i < (firstP g n).length → PWf ((firstP g n).getD i noPr) := fun i hi => by
  rw [firstP_len] at hi
  rw [firstP_at hi]
  exact (hg _).wf
theorem peers_word {k : Nat} {N : List (List Int)} {lb : List Lab} (h : NOk lb.length k N) (hL : lb.length ≤ 1000) (hk : 1 ≤ k ∧ k ≤ 10) (st : Nat) (hst : st < k) (F : List Bool) (hF : F.length = k) (hv : (liveL F N).getD st false = true) :
    ∃ g : Int → Pr, ∀ p, POk lb st F N p (g p) ∧ ∀ w, endsD F N st w = true → endsD (g p).F (g p).N ((0 : Nat) : Int) (wordOf lb p w) = true := by
  have key : ∀ p : Int, ∃ x : Pr, POk lb st F N p x ∧ ∀ w, endsD F N st w = true → endsD x.F x.N ((0 : Nat) : Int) (wordOf lb p w) = true := fun p => by
    rcases hide_says h hL hk st hst F hF p with ⟨_, j, H, Y, h1, h2, hY, hH, hOf, _, hwd, _⟩ | ⟨h0, _⟩
    · have hal := acts_len lb p lb.length
      have hl := hY.len
      exact ⟨⟨p, acts lb p lb.length, (acts lb p lb.length).length, 0, H, Y⟩, ⟨⟨by simp only [hl]; exact hY, by simp only [hl]; exact hH, by simp only [hl]; exact ⟨h1, h2⟩, by simp only [hl]; omega, by simp only; omega⟩, rfl, rfl, rfl, rfl, hOf⟩, hwd⟩
    · rw [hv] at h0; cases h0
  exact Classical.axiomOfChoice key
theorem findA_bd (A : List (Int × Int)) (y : Int × Int) : -1 ≤ findA A y ∧ findA A y < (A.length : Int) := by
  unfold findA
  split
  · rename_i h
    have := List.idxOf_lt_length_of_mem (List.contains_iff_mem.1 h)
    omega
  · omega
theorem findA_idx {lb : List Lab} {part : Int} {k : Nat} (hk : k < lb.length) (d : Int) (hd : actOf part (lb.getD k (0, 0, 0)) k = [(d, (k : Int))]) :
    ∀ n, k < n → n ≤ lb.length → findA (acts lb part n) (d, (k : Int)) = idxA (acts lb part n) (k : Int) 0 := by
  have key : ∀ (A : List (Int × Int)) (j : Nat), (∀ x ∈ A, x.2 = (k : Int) → x = (d, (k : Int))) → idxA A (k : Int) j = if findA A (d, (k : Int)) = -1 then -1 else findA A (d, (k : Int)) + j := by
    intro A
    induction A with
    | nil => intro j _; rfl
    | cons x A ih =>
      intro j hA
      rw [idxA, findA_cons, ih (j + 1) (fun y hy => hA y (by simp [hy]))]
      have hb : -1 ≤ findA A (d, (k : Int)) := (findA_bd A _).1
      by_cases e : x.2 = (k : Int)
      · rw [if_pos e, if_pos (hA x (by simp) e)]; simp
      · have e2 : ¬ x = (d, (k : Int)) := fun q => e (by rw [q])
        rw [if_neg e, if_neg e2]
        by_cases q : findA A (d, (k : Int)) = -1
        · simp [q]
        · rw [if_neg q, if_neg q, if_neg (by omega)]; omega
  intro n hn hnl
  have hall : ∀ m, ∀ x ∈ acts lb part m, x.2 = (k : Int) → x = (d, (k : Int)) := by
    intro m
    induction m with
    | zero => intro x hx; simp [acts] at hx
    | succ m ih =>
      intro x hx he
      simp only [acts, List.mem_append] at hx
      rcases hx with hx | hx
      · exact ih x hx he
      · have hm : x.2 = (m : Int) := by
          unfold actOf at hx
          split at hx
          · simp at hx; rw [hx]
          · split at hx
            · simp at hx; rw [hx]
            · cases hx
        have : m = k := by omega
        subst this
        rw [hd, List.mem_singleton] at hx
        exact hx
  rw [key _ 0 (hall n)]
  have hb := (findA_bd (acts lb part n) (d, (k : Int))).1
  split <;> rename_i q
  · exact q
  · simp
theorem runD_one {N : List (List Int)} {s : Int} (h : 0 ≤ s) (x : Int) : runD N s [x] = toD N s x := by
  have := runD_next (N := N) (w := [x]) (n := 0) (s := s) (by simp) (by simpa [runD] using h)
  simpa [runD] using this
theorem wordOf_app (lb : List Lab) (p : Int) (u v : List Int) : wordOf lb p (u ++ v) = wordOf lb p u ++ wordOf lb p v := by simp [wordOf]
theorem ends_pos {F : List Bool} {N : List (List Int)} {s : Int} {w : List Int} (h : endsD F N s w = true) : 0 ≤ runD N s w := by
  unfold endsD at h
  simp only [Bool.and_eq_true, decide_eq_true_eq] at h
  exact h.1
theorem run_pre {N : List (List Int)} {s : Int} {u v : List Int} (h : 0 ≤ runD N s (u ++ v)) : 0 ≤ runD N s u := by
  rw [runD_append] at h
  rcases Int.lt_or_le (runD N s u) 0 with q | q
  · rw [runD_neg q] at h; omega
  · exact q
theorem run_inv {lb : List Lab} {st : Nat} {F : List Bool} {N : List (List Int)} {g : Int → Pr} (hg : ∀ p, POk lb st F N p (g p)) (hgl : GoodL lb 3) : ∀ (v u s : List Int), s.length = 3 → (∀ i : Nat, i < 3 → s.getD i 0 = runD (g i).N 0 (wordOf lb i u)) → (∀ i : Nat, i < 3 → endsD (g i).F (g i).N 0 (wordOf lb i (u ++ v)) = true) → (∀ x ∈ v, 0 ≤ x ∧ x < (lb.length : Int)) →
    ∃ t, runJ (firstP g 3) lb s v = some t ∧ endsJ (firstP g 3) t 3 = true
  | [], u, s, hs, hi, he, _ => by
    refine ⟨s, rfl, ?_⟩
    unfold endsJ
    rw [List.all_eq_true]
    intro i hir
    have hi3 := List.mem_range.1 hir
    have h1 := he i hi3
    rw [List.append_nil] at h1
    rw [hi i hi3, firstP_at hi3]
    unfold endsD at h1
    exact h1
  | k :: v, u, s, hs, hi, he, hv => by
    obtain ⟨h0, h1⟩ := hv k (by simp)
    obtain ⟨n, rfl⟩ := Int.eq_ofNat_of_zero_le h0
    have hn : n < lb.length := by omega
    obtain ⟨a, b, ha, hb, hab, x1, x2⟩ := hgl n hn
    have e3 : ∀ i : Nat, wordOf lb i (u ++ ((n : Int) :: v)) = wordOf lb i (u ++ [(n : Int)]) ++ wordOf lb i v := fun i => by rw [← wordOf_app]; simp
    have hpos : ∀ i : Nat, i < 3 → 0 ≤ runD (g i).N 0 (wordOf lb i (u ++ [(n : Int)])) := fun i h3 => by
      have := ends_pos (he i h3)
      rw [e3] at this
      exact run_pre this
    have hw1 : ∀ i : Nat, wordOf lb i [(n : Int)] = if hasI lb i n = true then [idxA (acts lb i lb.length) (n : Int) 0] else [] := fun i => by
      simp only [wordOf, List.flatMap_cons, List.flatMap_nil, List.append_nil, hasP_nat hn]
    have hstep : ∀ (i : Nat) (d : Int), i < 3 → hasI lb i n = true → actOf i (lb.getD n (0, 0, 0)) n = [(d, (n : Int))] → toD (g i).N (s.getD i 0) (findA (g i).A (d, (n : Int))) = runD (g i).N 0 (wordOf lb i (u ++ [(n : Int)])) := fun i d h3 hh ho => by
      rw [(hg i).A, findA_idx hn d ho _ hn (Nat.le_refl _), wordOf_app, hw1, if_pos hh, runD_append, ← hi i h3]
      have hp := hpos i h3
      rw [wordOf_app, runD_append, ← hi i h3] at hp
      have : 0 ≤ s.getD i 0 := by
        rcases Int.lt_or_le (s.getD i 0) 0 with q | q
        · rw [runD_neg q] at hp; omega
        · exact q
      rw [runD_one this]
    have oa : actOf (a : Int) (lb.getD n (0, 0, 0)) n = [(1, (n : Int))] := by unfold actOf; rw [if_pos x1.symm]
    have ob : actOf (b : Int) (lb.getD n (0, 0, 0)) n = [(2, (n : Int))] := by unfold actOf; rw [if_neg (by rw [x1]; omega), if_pos x2.symm]
    have ia : hasI lb a n = true := by unfold hasI; rw [x1]; simp
    have ib : hasI lb b n = true := by unfold hasI; rw [x2]; simp
    have ra := hstep a 1 ha ia oa
    have rb := hstep b 2 hb ib ob
    have hst : stepJ (firstP g 3) lb s (n : Int) = some ((s.set a (runD (g a).N 0 (wordOf lb a (u ++ [(n : Int)])))).set b (runD (g b).N 0 (wordOf lb b (u ++ [(n : Int)])))) := by
      unfold stepJ
      rw [if_pos ⟨h0, h1⟩, Int.toNat_natCast, x1, x2, Int.toNat_natCast, Int.toNat_natCast]
      unfold toJ
      rw [firstP_at ha, firstP_at hb, ra, rb, if_pos ⟨hpos a ha, hpos b hb⟩]
    rw [runJ, hst]
    refine run_inv hg hgl v (u ++ [(n : Int)]) _ (by simp [hs]) (fun i h3 => ?_) (fun i h3 => by rw [List.append_assoc]; exact he i h3) (fun x hx => hv x (by simp [hx]))
    by_cases eb : i = b
    · subst eb
      simp [List.getD, hs, h3]
    · by_cases ea : i = a
      · subst ea
        rw [List.getD_eq_getElem?_getD, List.getElem?_set_ne (Ne.symm eb), List.getElem?_set_self (by omega)]; rfl
      · have hno : hasI lb i n = false := by
          unfold hasI; rw [x1, x2]
          simp; omega
        have e0 : runD (g i).N 0 (wordOf lb i (u ++ [(n : Int)])) = s.getD i 0 := by
          rw [wordOf_app, hw1, hno, if_neg (by decide), List.append_nil, hi i h3]
        rw [e0, List.getD_eq_getElem?_getD, List.getElem?_set_ne (Ne.symm eb), List.getElem?_set_ne (Ne.symm ea), ← List.getD_eq_getElem?_getD]
theorem folJ_all {lb : List Lab} {st : Nat} {F : List Bool} {N : List (List Int)} {g : Int → Pr} (hg : ∀ p, POk lb st F N p (g p)) (hgl : GoodL lb 3) (w : List Int) (he : ∀ i : Nat, i < 3 → endsD (g i).F (g i).N 0 (wordOf lb i w) = true) (hv : ∀ x ∈ w, 0 ≤ x ∧ x < (lb.length : Int)) : folJ (firstP g 3) lb w = true := by
  have hst : startsL (firstP g 3) = [0, 0, 0] := by
    have h0 := (hg ((0 : Nat) : Int)).s0
    have h1 := (hg ((1 : Nat) : Int)).s0
    have h2 := (hg ((2 : Nat) : Int)).s0
    show [((g ((0 : Nat) : Int)).st : Int), ((g ((1 : Nat) : Int)).st : Int), ((g ((2 : Nat) : Int)).st : Int)] = [0, 0, 0]
    rw [h0, h1, h2]; rfl
  obtain ⟨t, h1, h2⟩ := run_inv hg hgl w [] [0, 0, 0] rfl (fun i h3 => by
    match i, h3 with
    | 0, _ => rfl
    | 1, _ => rfl
    | 2, _ => rfl) (by simpa using he) hv
  unfold folJ
  rw [hst, h1, firstP_len]
  exact h2
theorem mem_upto {L n : Nat} {w : List Int} (h : w ∈ uptoL L n) : w.length ≤ n ∧ ∀ x ∈ w, 0 ≤ x ∧ x < (L : Int) := uptoL_mem.1 h
set_option maxRecDepth 20000 in
set_option maxHeartbeats 32000000 in
theorem c_JointFollows (f : Bool) (l : List (Int × Int × Int)) (fin z0 z1 : Int) (hl : l.length ≤ 9223372036854775807) :
    Contract Try.prog 9 [.sl f (tri l), i64 fin, .agg [i64 z0, i64 z1]] (bo true) [] := by
  refine contract_of_awp (rs := [6]) Try.func9 rfl Try.ntmps9 (by simp) rfl fun E => ?_
  have hAny := c_RAny f l fin z0 z1 hl
  have hL := labD_le z0
  rw [← labP_len] at hL
  have hgl := goodL_labP z0
  have hk := numD_le z1
  have hst := startD_lt z1
  have hok := nextD_ok (L := (labP z0).length) hk.1 l
  have hF := finD_len fin (numD z1)
  generalize nextD (labP z0).length (numD z1) l = N at *
  generalize labP z0 = lb at *
  generalize finD fin (numD z1) = F at *
  generalize numD z1 = k at *
  generalize startD z1 = st at *
  (repeat (first | refine awp_seq ?_ | refine awp_block ?_ | ((first | refine awp_skip ?_ | refine awp_exit ?_ | refine awp_reg ttok ?_ | (refine awp_draw ttok ?dr_calm ?_; (case dr_calm => decide +kernel)) | refine awp_condM ?_); simp (maxSteps := 4000000) only [↓reduceIte, Nat.reduceLT, Nat.reduceEqDiff, reduceCtorEq, Nat.reduceAdd, Nat.reduceMul, Int.reduceLE, Int.reduceLT, Int.reduceToNat, Nat.reduceLeDiff, Nat.reduceSub, Int.reduceEq, Nat.reduceBEq, List.replicate, List.set, evB, tyA]; (repeat (with_reducible refine And.intro ?_ ?_; exact sdX)); (with_reducible first | refine awp_id ?_ | refine id_call ?_ | refine id_and ?_ | refine id_ex ?_ | refine id_all ?_ | refine id_nat ?_ | refine id_le ?_))))
  refine callVC_mk fnok17 hAny rfl ?_
  simp (maxSteps := 4000000) only [↓reduceIte, Nat.reduceLT, Nat.reduceEqDiff, reduceCtorEq, Nat.reduceAdd, Nat.reduceMul, Int.reduceLE, Int.reduceLT, Int.reduceToNat, Nat.reduceLeDiff, Nat.reduceSub, Int.reduceEq, Nat.reduceBEq, List.replicate, List.set, evB, tyA, dfaD]
  (repeat (with_reducible refine And.intro ?_ ?_; exact sdX))
  (repeat (first | refine awp_seq ?_ | refine awp_block ?_ | ((first | refine awp_skip ?_ | refine awp_exit ?_ | refine awp_reg ttok ?_ | (refine awp_draw ttok ?dr_calm ?_; (case dr_calm => decide +kernel)) | refine awp_condM ?_); simp (maxSteps := 4000000) only [↓reduceIte, Nat.reduceLT, Nat.reduceEqDiff, reduceCtorEq, Nat.reduceAdd, Nat.reduceMul, Int.reduceLE, Int.reduceLT, Int.reduceToNat, Nat.reduceLeDiff, Nat.reduceSub, Int.reduceEq, Nat.reduceBEq, List.replicate, List.set, evB, tyA]; (repeat (with_reducible refine And.intro ?_ ?_; exact sdX)); (with_reducible first | refine awp_id ?_ | refine id_call ?_ | refine id_and ?_ | refine id_ex ?_ | refine id_all ?_ | refine id_nat ?_ | refine id_le ?_))))
  cases hv : (liveL F N).getD st false
  · rcases hide_says hok (by omega) (by omega) st hst F hF 0 with ⟨h0, _⟩ | ⟨_, hOf⟩
    · rw [hv] at h0; cases h0
    · refine callVC_mk fnok23 (c_PeersNo hok st F false (hOf false)) rfl ?_
      simp (maxSteps := 4000000) only [↓reduceIte, Nat.reduceLT, Nat.reduceEqDiff, reduceCtorEq, Nat.reduceAdd, Nat.reduceMul, Int.reduceLE, Int.reduceLT, Int.reduceToNat, Nat.reduceLeDiff, Nat.reduceSub, Int.reduceEq, Nat.reduceBEq, List.replicate, List.set, evB, tyA]
      (repeat (with_reducible refine And.intro ?_ ?_; exact sdX))
      (repeat (first | refine awp_seq ?_ | refine awp_block ?_ | ((first | refine awp_skip ?_ | refine awp_exit ?_ | refine awp_reg ttok ?_ | (refine awp_draw ttok ?dr_calm ?_; (case dr_calm => decide +kernel)) | refine awp_condM ?_); simp (maxSteps := 4000000) only [↓reduceIte, Nat.reduceLT, Nat.reduceEqDiff, reduceCtorEq, Nat.reduceAdd, Nat.reduceMul, Int.reduceLE, Int.reduceLT, Int.reduceToNat, Nat.reduceLeDiff, Nat.reduceSub, Int.reduceEq, Nat.reduceBEq, List.replicate, List.set, evB, tyA]; (repeat (with_reducible refine And.intro ?_ ?_; exact sdX)); (with_reducible first | refine awp_id ?_ | refine id_call ?_ | refine id_and ?_ | refine id_ex ?_ | refine id_all ?_ | refine id_nat ?_ | refine id_le ?_))))
      refine callVC_scal fnok32 c_awake27 rfl ?_
      simp (maxSteps := 4000000) only [↓reduceIte, Nat.reduceLT, Nat.reduceEqDiff, reduceCtorEq, Nat.reduceAdd, Nat.reduceMul, Int.reduceLE, Int.reduceLT, Int.reduceToNat, Nat.reduceLeDiff, Nat.reduceSub, Int.reduceEq, Nat.reduceBEq, List.replicate, List.set, evB, tyA]
      (repeat (with_reducible refine And.intro ?_ ?_; exact sdX))
      (repeat (first | refine awp_seq ?_ | refine awp_block ?_ | ((first | refine awp_skip ?_ | refine awp_exit ?_ | refine awp_reg ttok ?_ | (refine awp_draw ttok ?dr_calm ?_; (case dr_calm => decide +kernel)) | refine awp_condM ?_); simp (maxSteps := 4000000) only [↓reduceIte, Nat.reduceLT, Nat.reduceEqDiff, reduceCtorEq, Nat.reduceAdd, Nat.reduceMul, Int.reduceLE, Int.reduceLT, Int.reduceToNat, Nat.reduceLeDiff, Nat.reduceSub, Int.reduceEq, Nat.reduceBEq, List.replicate, List.set, evB, tyA]; (repeat (with_reducible refine And.intro ?_ ?_; exact sdX)); (with_reducible first | refine awp_id ?_ | refine id_call ?_ | refine id_and ?_ | refine id_ex ?_ | refine id_all ?_ | refine id_nat ?_ | refine id_le ?_))))
      exact awp_ret (ends_plain (.inr rfl) rfl evX)
  obtain ⟨g, hg'⟩ := peers_word hok (by omega) (by omega) st hst F hF hv
  have hg := fun p => (hg' p).1
  have hP := c_Peers hok st F false hg
  have hwf := firstP_wf hg 3
  have hfl := firstP_len g 3
  have hall := fun w he hx => folJ_all hg hgl w he hx
  have hU := c_Upto lb.length 3 (by omega) (by omega)
  have hUm : ∀ w ∈ uptoL lb.length 3, w.length ≤ 3 ∧ (endsD F N st w = true → folJ (firstP g 3) lb w = true) := fun w hw => by
    obtain ⟨h1, h2⟩ := mem_upto hw
    exact ⟨h1, fun he => hall w (fun i _ => (hg' (i : Int)).2 w he) h2⟩
  have hUl : (uptoL lb.length 3).length ≤ 10000 := by
    have e : lb.length = 0 ∨ lb.length = 1 ∨ lb.length = 2 ∨ lb.length = 3 ∨ lb.length = 4 := by omega
    rcases e with e | e | e | e | e <;> rw [e] <;> decide +kernel
  generalize uptoL lb.length 3 = U at *
  rw [← hfl] at hgl
  have hHo := c_JHolds hok st hst F hF false false false (firstP g 3) lb U (by omega) hgl hwf (by omega) (fun w hw => by have := (hUm w hw).1; omega) (by omega) (fun w hw => (hUm w hw).2)
  generalize firstP g 3 = pl at *
  refine callVC_mk fnok23 hP rfl ?_
  simp (maxSteps := 4000000) only [↓reduceIte, Nat.reduceLT, Nat.reduceEqDiff, reduceCtorEq, Nat.reduceAdd, Nat.reduceMul, Int.reduceLE, Int.reduceLT, Int.reduceToNat, Nat.reduceLeDiff, Nat.reduceSub, Int.reduceEq, Nat.reduceBEq, List.replicate, List.set, evB, tyA]
  (repeat (with_reducible refine And.intro ?_ ?_; exact sdX))
  (repeat (first | refine awp_seq ?_ | refine awp_block ?_ | ((first | refine awp_skip ?_ | refine awp_exit ?_ | refine awp_reg ttok ?_ | (refine awp_draw ttok ?dr_calm ?_; (case dr_calm => decide +kernel)) | refine awp_condM ?_); simp (maxSteps := 4000000) only [↓reduceIte, Nat.reduceLT, Nat.reduceEqDiff, reduceCtorEq, Nat.reduceAdd, Nat.reduceMul, Int.reduceLE, Int.reduceLT, Int.reduceToNat, Nat.reduceLeDiff, Nat.reduceSub, Int.reduceEq, Nat.reduceBEq, List.replicate, List.set, evB, tyA]; (repeat (with_reducible refine And.intro ?_ ?_; exact sdX)); (with_reducible first | refine awp_id ?_ | refine id_call ?_ | refine id_and ?_ | refine id_ex ?_ | refine id_all ?_ | refine id_nat ?_ | refine id_le ?_))))
  refine callVC_mk fnok12 hU rfl ?_
  simp (maxSteps := 4000000) only [↓reduceIte, Nat.reduceLT, Nat.reduceEqDiff, reduceCtorEq, Nat.reduceAdd, Nat.reduceMul, Int.reduceLE, Int.reduceLT, Int.reduceToNat, Nat.reduceLeDiff, Nat.reduceSub, Int.reduceEq, Nat.reduceBEq, List.replicate, List.set, evB, tyA]
  (repeat (with_reducible refine And.intro ?_ ?_; exact sdX))
  (repeat (first | refine awp_seq ?_ | refine awp_block ?_ | ((first | refine awp_skip ?_ | refine awp_exit ?_ | refine awp_reg ttok ?_ | (refine awp_draw ttok ?dr_calm ?_; (case dr_calm => decide +kernel)) | refine awp_condM ?_); simp (maxSteps := 4000000) only [↓reduceIte, Nat.reduceLT, Nat.reduceEqDiff, reduceCtorEq, Nat.reduceAdd, Nat.reduceMul, Int.reduceLE, Int.reduceLT, Int.reduceToNat, Nat.reduceLeDiff, Nat.reduceSub, Int.reduceEq, Nat.reduceBEq, List.replicate, List.set, evB, tyA]; (repeat (with_reducible refine And.intro ?_ ?_; exact sdX)); (with_reducible first | refine awp_id ?_ | refine id_call ?_ | refine id_and ?_ | refine id_ex ?_ | refine id_all ?_ | refine id_nat ?_ | refine id_le ?_))))
  refine awp_loop (X := Nat) (fun i => mkS 64 [(7, .ptr 2007 0 0), (8, .sl false (tri lb)), (9, .sl false (prs pl)), (11, .sl false (iis U)), (12, i64 i)] [(2007, { sz := 4, rows := [[i64 lb.length, i64 st, .sl false (bos F), .sl false (iis N)]], flat := false })]) (fun i => i ≤ U.length) (fun i => U.length - i) 0 (Nat.zero_le _) (mkS_le rfl ?_ ?_) ?_
  · simp (maxSteps := 4000000) only [↓reduceIte, Nat.reduceLT, Nat.reduceEqDiff, reduceCtorEq, Nat.reduceAdd, Nat.reduceMul, Int.reduceLE, Int.reduceLT, Int.reduceToNat, Nat.reduceLeDiff, Nat.reduceSub, Int.reduceEq, Nat.reduceBEq, List.replicate, List.set, evB]
    try rfl
  · simp (maxSteps := 4000000) only [↓reduceIte, Nat.reduceLT, Nat.reduceEqDiff, reduceCtorEq, Nat.reduceAdd, Nat.reduceMul, Int.reduceLE, Int.reduceLT, Int.reduceToNat, Nat.reduceLeDiff, Nat.reduceSub, Int.reduceEq, Nat.reduceBEq, List.replicate, List.set, evB]
    try rfl
  · intro i hi
    by_cases hlt : i < U.length
    · have d1 : decide ((i : Int) < (U.length : Int)) = true := by simpa using hlt
      have hwi : IntKind.i64.wrap ((i : Int) + 1) = ((i + 1 : Nat) : Int) := i64_in (by omega) (by omega)
      have hgi := iis_get hlt
      obtain ⟨hm1, hm2⟩ := hUm _ (getD_mem hlt [])
      generalize U.getD i [] = w at *
      have hE := c_EndsG hok st F hF (by omega) (by omega) st (by omega) false w (by omega)
      have hFo := c_JFollows false false false pl lb w (by omega) hgl hwf (by omega)
      (repeat (first | refine awp_seq ?_ | refine awp_block ?_ | ((first | refine awp_skip ?_ | refine awp_exit ?_ | refine awp_reg ttok ?_ | (refine awp_draw ttok ?dr_calm ?_; (case dr_calm => decide +kernel)) | refine awp_condM ?_); simp (maxSteps := 4000000) only [↓reduceIte, Nat.reduceLT, Nat.reduceEqDiff, reduceCtorEq, Nat.reduceAdd, Nat.reduceMul, Int.reduceLE, Int.reduceLT, Int.reduceToNat, Nat.reduceLeDiff, Nat.reduceSub, Int.reduceEq, Nat.reduceBEq, List.replicate, List.set, evB, tyA, d1, iis_len]; (repeat (with_reducible refine And.intro ?_ ?_; exact sdX)); (with_reducible first | refine awp_id ?_ | refine id_call ?_ | refine id_and ?_ | refine id_ex ?_ | refine id_all ?_ | refine id_nat ?_ | refine id_le ?_))))
      refine awp_drawG ttok ((0, none) :: (1, none) :: (2, none) :: (3, none) :: (4, none) :: (5, none) :: (6, none) :: (7, some []) :: (8, none) :: (9, none) :: (10, none) :: (11, none) :: (12, none) :: (13, none) :: (14, none) :: (15, some []) :: (16, none) :: (17, none) :: []) ([]) ([]) (by decide +kernel) fun O hO => ?_; simp only [OpsAre, Nat.reduceAdd, and_true, List.toList_toArray, List.append_eq, List.cons_append, List.nil_append] at hO; simp (maxSteps := 4000000) only [↓reduceIte, Nat.reduceLT, Nat.reduceEqDiff, reduceCtorEq, Nat.reduceAdd, Nat.reduceMul, Int.reduceLE, Int.reduceLT, Int.reduceToNat, Nat.reduceLeDiff, Nat.reduceSub, Int.reduceEq, Nat.reduceBEq, List.replicate, List.set, evB, tyA, hO, hgi, iis_len]; (repeat (with_reducible refine And.intro ?_ ?_; exact sdX))
      refine callVC_scal fnok14 hE rfl ?_
      cases hq : endsD F N st w
      · simp (maxSteps := 4000000) only [↓reduceIte, Nat.reduceLT, Nat.reduceEqDiff, reduceCtorEq, Nat.reduceAdd, Nat.reduceMul, Int.reduceLE, Int.reduceLT, Int.reduceToNat, Nat.reduceLeDiff, Nat.reduceSub, Int.reduceEq, Nat.reduceBEq, List.replicate, List.set, evB, tyA, hO, hgi, iis_len]
        (repeat (with_reducible refine And.intro ?_ ?_; exact sdX))
        (repeat (first | refine awp_seq ?_ | refine awp_block ?_ | ((first | refine awp_skip ?_ | refine awp_exit ?_ | refine awp_reg ttok ?_ | (refine awp_draw ttok ?dr_calm ?_; (case dr_calm => decide +kernel)) | refine awp_condM ?_); simp (maxSteps := 4000000) only [↓reduceIte, Nat.reduceLT, Nat.reduceEqDiff, reduceCtorEq, Nat.reduceAdd, Nat.reduceMul, Int.reduceLE, Int.reduceLT, Int.reduceToNat, Nat.reduceLeDiff, Nat.reduceSub, Int.reduceEq, Nat.reduceBEq, List.replicate, List.set, evB, tyA, hwi]; (repeat (with_reducible refine And.intro ?_ ?_; exact sdX)); (with_reducible first | refine awp_id ?_ | refine id_call ?_ | refine id_and ?_ | refine id_ex ?_ | refine id_all ?_ | refine id_nat ?_ | refine id_le ?_))))
        refine ⟨i + 1, by omega, by omega, mkS_le rfl ?_ ?_⟩
        · exact evX
        · exact evX
      · rw [hm2 hq] at hFo
        simp (maxSteps := 4000000) only [↓reduceIte, Nat.reduceLT, Nat.reduceEqDiff, reduceCtorEq, Nat.reduceAdd, Nat.reduceMul, Int.reduceLE, Int.reduceLT, Int.reduceToNat, Nat.reduceLeDiff, Nat.reduceSub, Int.reduceEq, Nat.reduceBEq, List.replicate, List.set, evB, tyA, hO, hgi, iis_len]
        (repeat (with_reducible refine And.intro ?_ ?_; exact sdX))
        refine callVC_scal fnok40 hFo rfl ?_
        simp (maxSteps := 4000000) only [↓reduceIte, Nat.reduceLT, Nat.reduceEqDiff, reduceCtorEq, Nat.reduceAdd, Nat.reduceMul, Int.reduceLE, Int.reduceLT, Int.reduceToNat, Nat.reduceLeDiff, Nat.reduceSub, Int.reduceEq, Nat.reduceBEq, List.replicate, List.set, evB, tyA, hO]
        (repeat (with_reducible refine And.intro ?_ ?_; exact sdX))
        (repeat (first | refine awp_seq ?_ | refine awp_block ?_ | ((first | refine awp_skip ?_ | refine awp_exit ?_ | refine awp_reg ttok ?_ | (refine awp_draw ttok ?dr_calm ?_; (case dr_calm => decide +kernel)) | refine awp_condM ?_); simp (maxSteps := 4000000) only [↓reduceIte, Nat.reduceLT, Nat.reduceEqDiff, reduceCtorEq, Nat.reduceAdd, Nat.reduceMul, Int.reduceLE, Int.reduceLT, Int.reduceToNat, Nat.reduceLeDiff, Nat.reduceSub, Int.reduceEq, Nat.reduceBEq, List.replicate, List.set, evB, tyA, hwi]; (repeat (with_reducible refine And.intro ?_ ?_; exact sdX)); (with_reducible first | refine awp_id ?_ | refine id_call ?_ | refine id_and ?_ | refine id_ex ?_ | refine id_all ?_ | refine id_nat ?_ | refine id_le ?_))))
        refine ⟨i + 1, by omega, by omega, mkS_le rfl ?_ ?_⟩
        · exact evX
        · exact evX
    · have d1 : decide ((i : Int) < (U.length : Int)) = false := by simpa using hlt
      (repeat (first | refine awp_seq ?_ | refine awp_block ?_ | ((first | refine awp_skip ?_ | refine awp_exit ?_ | refine awp_reg ttok ?_ | (refine awp_draw ttok ?dr_calm ?_; (case dr_calm => decide +kernel)) | refine awp_condM ?_); simp (maxSteps := 4000000) only [↓reduceIte, Nat.reduceLT, Nat.reduceEqDiff, reduceCtorEq, Nat.reduceAdd, Nat.reduceMul, Int.reduceLE, Int.reduceLT, Int.reduceToNat, Nat.reduceLeDiff, Nat.reduceSub, Int.reduceEq, Nat.reduceBEq, List.replicate, List.set, evB, tyA, d1, iis_len]; (repeat (with_reducible refine And.intro ?_ ?_; exact sdX)); (with_reducible first | refine awp_id ?_ | refine id_call ?_ | refine id_and ?_ | refine id_ex ?_ | refine id_all ?_ | refine id_nat ?_ | refine id_le ?_))))
      refine callVC_scal fnok32 c_awake27 rfl ?_
      simp (maxSteps := 4000000) only [↓reduceIte, Nat.reduceLT, Nat.reduceEqDiff, reduceCtorEq, Nat.reduceAdd, Nat.reduceMul, Int.reduceLE, Int.reduceLT, Int.reduceToNat, Nat.reduceLeDiff, Nat.reduceSub, Int.reduceEq, Nat.reduceBEq, List.replicate, List.set, evB, tyA]
      (repeat (with_reducible refine And.intro ?_ ?_; exact sdX))
      refine callVC_scal fnok41 hHo rfl ?_
      simp (maxSteps := 4000000) only [↓reduceIte, Nat.reduceLT, Nat.reduceEqDiff, reduceCtorEq, Nat.reduceAdd, Nat.reduceMul, Int.reduceLE, Int.reduceLT, Int.reduceToNat, Nat.reduceLeDiff, Nat.reduceSub, Int.reduceEq, Nat.reduceBEq, List.replicate, List.set, evB, tyA, dfaD]
      (repeat (with_reducible refine And.intro ?_ ?_; exact sdX))
      (repeat (first | refine awp_seq ?_ | refine awp_block ?_ | ((first | refine awp_skip ?_ | refine awp_exit ?_ | refine awp_reg ttok ?_ | (refine awp_draw ttok ?dr_calm ?_; (case dr_calm => decide +kernel)) | refine awp_condM ?_); simp (maxSteps := 4000000) only [↓reduceIte, Nat.reduceLT, Nat.reduceEqDiff, reduceCtorEq, Nat.reduceAdd, Nat.reduceMul, Int.reduceLE, Int.reduceLT, Int.reduceToNat, Nat.reduceLeDiff, Nat.reduceSub, Int.reduceEq, Nat.reduceBEq, List.replicate, List.set, evB, tyA]; (repeat (with_reducible refine And.intro ?_ ?_; exact sdX)); (with_reducible first | refine awp_id ?_ | refine id_call ?_ | refine id_and ?_ | refine id_ex ?_ | refine id_all ?_ | refine id_nat ?_ | refine id_le ?_))))
      exact awp_ret (ends_plain (.inr rfl) rfl evX)
end Go.Proofs.Ytcpipfodedfpkaa
