import Derived.Test.YtcpipfodedfpkaaClo
import Derived.Test.YtcpipfodedfpkaaDn
import Derived.Test.YtcpipfodedfpkaaHdw
import Derived.Test.YtcpipfodedfpkaaRn
import Derived.Test.YtcpipfodedfpkaaCl
set_option linter.unusedSimpArgs false
set_option linter.unusedVariables false
namespace Go.Proofs.Ytcpipfodedfpkaa
open Go.Ab
def leastR (L : Nat) (M : Mv) (F : List Bool) (st : Nat) : D := ofR L 0 (dFin F (dAll L M (cloL M [(st : Int)]))) (dNx L M (dAll L M (cloL M [(st : Int)])))
set_option maxRecDepth 20000 in
theorem c_Least {L k : Nat} {M : Mv} (h : MOk L k M) (hR : ∀ s, (M.getD s []).length ≤ 1000) (hL : L ≤ 100000) (hk : 1 ≤ k ∧ k ≤ 10) (st : Nat) (hst : st < k) (F : List Bool) (hF : F.length = k) :
    Contract Try.prog 11 [nfaD L st F M] (leastR L M F st) [] := by
  refine contract_of_awpV ttok (rs := [.cell 2 31, .tmp 3]) Try.func11 rfl Try.ntmps11 (by simp) rfl fun E => ?_
  have hD := c_DOf h hR hL hk st hst F hF
  have hA := DA.mk (L := L) (z := cloL M [(st : Int)]) (Q := dAll L M (cloL M [(st : Int)])) h ⟨_, rfl⟩ rfl
  have hlQ := hA.lenQ
  have h2k : 2 ^ k ≤ 1024 := Nat.pow_le_pow_right (show 0 < 2 by decide) hk.2
  unfold leastR
  generalize dAll L M (cloL M [(st : Int)]) = Q at *
  have hO := c_MOfR hA.ok 0 hA.q0.1 (dFin F Q) (by simp [dFin]) hL ⟨hA.q0.1, Nat.le_trans hlQ (Nat.le_trans h2k (by decide))⟩
  generalize dFin F Q = G at *
  generalize dNx L M Q = Y at *
  have c0 : ((0 : Int) != 0) = false := rfl
  clear h2k hlQ
  (repeat (first | refine awp_seq ?_ | refine awp_block ?_ | ((first | refine awp_skip ?_ | refine awp_exit ?_ | refine awp_reg ttok ?_ | (refine awp_draw ttok ?dr_calm ?_; (case dr_calm => decide +kernel)) | refine awp_condM ?_); simp (maxSteps := 4000000) only [↓reduceIte, Nat.reduceLT, Nat.reduceEqDiff, reduceCtorEq, Nat.reduceAdd, Nat.reduceMul, Int.reduceLE, Int.reduceLT, Int.reduceToNat, Nat.reduceLeDiff, Nat.reduceSub, Int.reduceEq, Nat.reduceBEq, List.replicate, List.set, evB, tyA, nfaD]; (repeat (with_reducible refine And.intro ?_ ?_; exact sdX)); (with_reducible first | refine awp_id ?_ | refine id_call ?_ | refine id_and ?_ | refine id_ex ?_ | refine id_all ?_ | refine id_nat ?_ | refine id_le ?_))))
  refine callVC_mk fnok42 hD rfl ?_
  simp (maxSteps := 4000000) only [↓reduceIte, Nat.reduceLT, Nat.reduceEqDiff, reduceCtorEq, Nat.reduceAdd, Nat.reduceMul, Int.reduceLE, Int.reduceLT, Int.reduceToNat, Nat.reduceLeDiff, Nat.reduceSub, Int.reduceEq, Nat.reduceBEq, List.replicate, List.set, evB, tyA, dfaD]
  (repeat (with_reducible refine And.intro ?_ ?_; exact sdX))
  (repeat (first | refine awp_seq ?_ | refine awp_block ?_ | ((first | refine awp_skip ?_ | refine awp_exit ?_ | refine awp_reg ttok ?_ | (refine awp_draw ttok ?dr_calm ?_; (case dr_calm => decide +kernel)) | refine awp_condM ?_); simp (maxSteps := 4000000) only [↓reduceIte, Nat.reduceLT, Nat.reduceEqDiff, reduceCtorEq, Nat.reduceAdd, Nat.reduceMul, Int.reduceLE, Int.reduceLT, Int.reduceToNat, Nat.reduceLeDiff, Nat.reduceSub, Int.reduceEq, Nat.reduceBEq, List.replicate, List.set, evB, tyA, c0]; (repeat (with_reducible refine And.intro ?_ ?_; exact sdX)); (with_reducible first | refine awp_id ?_ | refine id_call ?_ | refine id_and ?_ | refine id_ex ?_ | refine id_all ?_ | refine id_nat ?_ | refine id_le ?_))))
  refine callVC_mk fnok43 hO rfl ?_
  unfold ofR noDfa
  split
  · simp (maxSteps := 4000000) only [↓reduceIte, Nat.reduceLT, Nat.reduceEqDiff, reduceCtorEq, Nat.reduceAdd, Nat.reduceMul, Int.reduceLE, Int.reduceLT, Int.reduceToNat, Nat.reduceLeDiff, Nat.reduceSub, Int.reduceEq, Nat.reduceBEq, List.replicate, List.set, evB, tyA, dfaD]
    (repeat (with_reducible refine And.intro ?_ ?_; exact sdX))
    (repeat (first | refine awp_seq ?_ | refine awp_block ?_ | ((first | refine awp_skip ?_ | refine awp_exit ?_ | refine awp_reg ttok ?_ | (refine awp_draw ttok ?dr_calm ?_; (case dr_calm => decide +kernel)) | refine awp_condM ?_); simp (maxSteps := 4000000) only [↓reduceIte, Nat.reduceLT, Nat.reduceEqDiff, reduceCtorEq, Nat.reduceAdd, Nat.reduceMul, Int.reduceLE, Int.reduceLT, Int.reduceToNat, Nat.reduceLeDiff, Nat.reduceSub, Int.reduceEq, Nat.reduceBEq, List.replicate, List.set, evB, tyA]; (repeat (with_reducible refine And.intro ?_ ?_; exact sdX)); (with_reducible first | refine awp_id ?_ | refine id_call ?_ | refine id_and ?_ | refine id_ex ?_ | refine id_all ?_ | refine id_nat ?_ | refine id_le ?_))))
    exact awp_ret (endsV [] (.inr rfl) (by simp (maxSteps := 4000000) only [↓reduceIte, Nat.reduceLT, Nat.reduceEqDiff, reduceCtorEq, Nat.reduceAdd, Nat.reduceMul, Int.reduceLE, Int.reduceLT, Int.reduceToNat, Nat.reduceLeDiff, Nat.reduceSub, Int.reduceEq, Nat.reduceBEq, List.replicate, List.set, evB, tyA]; rfl) trivial evX)
  · simp (maxSteps := 4000000) only [↓reduceIte, Nat.reduceLT, Nat.reduceEqDiff, reduceCtorEq, Nat.reduceAdd, Nat.reduceMul, Int.reduceLE, Int.reduceLT, Int.reduceToNat, Nat.reduceLeDiff, Nat.reduceSub, Int.reduceEq, Nat.reduceBEq, List.replicate, List.set, evB, tyA, dfaD]
    (repeat (with_reducible refine And.intro ?_ ?_; exact sdX))
    (repeat (first | refine awp_seq ?_ | refine awp_block ?_ | ((first | refine awp_skip ?_ | refine awp_exit ?_ | refine awp_reg ttok ?_ | (refine awp_draw ttok ?dr_calm ?_; (case dr_calm => decide +kernel)) | refine awp_condM ?_); simp (maxSteps := 4000000) only [↓reduceIte, Nat.reduceLT, Nat.reduceEqDiff, reduceCtorEq, Nat.reduceAdd, Nat.reduceMul, Int.reduceLE, Int.reduceLT, Int.reduceToNat, Nat.reduceLeDiff, Nat.reduceSub, Int.reduceEq, Nat.reduceBEq, List.replicate, List.set, evB, tyA]; (repeat (with_reducible refine And.intro ?_ ?_; exact sdX)); (with_reducible first | refine awp_id ?_ | refine id_call ?_ | refine id_and ?_ | refine id_ex ?_ | refine id_all ?_ | refine id_nat ?_ | refine id_le ?_))))
    exact awp_ret (endsV [] (.inr rfl) (by simp (maxSteps := 4000000) only [↓reduceIte, Nat.reduceLT, Nat.reduceEqDiff, reduceCtorEq, Nat.reduceAdd, Nat.reduceMul, Int.reduceLE, Int.reduceLT, Int.reduceToNat, Nat.reduceLeDiff, Nat.reduceSub, Int.reduceEq, Nat.reduceBEq, List.replicate, List.set, evB, tyA]; rfl) trivial evX)
theorem c_HFn (d a w t : Int) : Contract Try.prog 57 [.agg [i64 d, i64 a], .ref [i64 w, i64 t] 0] (bo (a == w)) [] := by
  refine contract_of_awp (rs := [3]) Try.func57 rfl Try.ntmps57 (by simp) rfl fun E => ?_
  (repeat (first | refine awp_seq ?_ | refine awp_block ?_ | ((first | refine awp_skip ?_ | refine awp_exit ?_ | refine awp_reg ttok ?_ | (refine awp_draw ttok ?dr_calm ?_; (case dr_calm => decide +kernel)) | refine awp_condM ?_); simp (maxSteps := 4000000) only [↓reduceIte, Nat.reduceLT, Nat.reduceEqDiff, reduceCtorEq, Nat.reduceAdd, Nat.reduceMul, Int.reduceLE, Int.reduceLT, Int.reduceToNat, Nat.reduceLeDiff, Nat.reduceSub, Int.reduceEq, Nat.reduceBEq, List.replicate, List.set, evB, tyA]; (repeat (with_reducible refine And.intro ?_ ?_; exact sdX)); (with_reducible first | refine awp_id ?_ | refine id_call ?_ | refine id_and ?_ | refine id_ex ?_ | refine id_all ?_ | refine id_nat ?_ | refine id_le ?_))))
  exact awp_ret (ends_plain (.inr rfl) rfl evX)
def hm (A : List (Int × Int)) (m : Int × Int) : Int × Int := (idxA A m.1 0, m.2)
def hidM (A : List (Int × Int)) (N : List (List Int)) : Mv := (movD N).map fun r => r.map (hm A)
def hmP (A : List (Int × Int)) (r : List (Int × Int)) (j : Nat) : List (Int × Int) := (r.take j).map (hm A) ++ r.drop j
theorem hmP_zero (A : List (Int × Int)) (r : List (Int × Int)) : hmP A r 0 = r := by simp [hmP]
theorem hmP_all (A : List (Int × Int)) (r : List (Int × Int)) : hmP A r r.length = r.map (hm A) := by simp [hmP]
theorem hmP_len (A : List (Int × Int)) (r : List (Int × Int)) {j : Nat} (h : j ≤ r.length) : (hmP A r j).length = r.length := by simp [hmP]; omega
theorem hmP_get {A : List (Int × Int)} {r : List (Int × Int)} {j : Nat} (h : j < r.length) : (hmP A r j).getD j (0, 0) = r.getD j (0, 0) := by
  have e : ((r.take j).map (hm A)).length = j := by simp; omega
  rw [hmP, List.getD_eq_getElem?_getD, List.getElem?_append_right (by omega), e, Nat.sub_self, List.getElem?_drop, Nat.add_zero]; rfl
theorem hmP_set {A : List (Int × Int)} {r : List (Int × Int)} {j : Nat} (h : j < r.length) : (hmP A r j).set j (hm A (r.getD j (0, 0))) = hmP A r (j + 1) := by
  have e : ((r.take j).map (hm A)).length = j := by simp; omega
  have ed : r.drop j = r.getD j (0, 0) :: r.drop (j + 1) := drop_getD h _
  rw [hmP, ed, List.set_append_right _ _ (by omega), e, Nat.sub_self, List.set_cons_zero, hmP, take_snoc h (0, 0), List.map_append, List.append_assoc]; rfl
set_option maxHeartbeats 4000000 in
theorem c_IndexN (f : Bool) (l : List (Int × Int)) (w t : Int) (hl : l.length ≤ 100000) : Contract Try.prog 56 [.sl f (duo l), .fn (.func 57) 0 [.ref [i64 w, i64 t] 0]] (i64 (idxA l w 0)) [] := by
  refine contract_of_awp (rs := [4]) Try.func56 rfl Try.ntmps56 (by simp) rfl fun E => ?_
  (repeat (first | refine awp_seq ?_ | refine awp_block ?_ | ((first | refine awp_skip ?_ | refine awp_exit ?_ | refine awp_reg ttok ?_ | (refine awp_draw ttok ?dr_calm ?_; (case dr_calm => decide +kernel)) | refine awp_condM ?_); simp (maxSteps := 4000000) only [↓reduceIte, Nat.reduceLT, Nat.reduceEqDiff, reduceCtorEq, Nat.reduceAdd, Nat.reduceMul, Int.reduceLE, Int.reduceLT, Int.reduceToNat, Nat.reduceLeDiff, Nat.reduceSub, Int.reduceEq, Nat.reduceBEq, List.replicate, List.set, evB, tyA, duo_len]; (repeat (with_reducible refine And.intro ?_ ?_; exact sdX)); (with_reducible first | refine awp_id ?_ | refine id_call ?_ | refine id_and ?_ | refine id_ex ?_ | refine id_all ?_ | refine id_nat ?_ | refine id_le ?_))))
  refine awp_loop (X := Nat) (fun i => mkS 19 [(0, .sl f (duo l)), (1, .fn (.func 57) 0 [.ref [i64 w, i64 t] 0]), (7, i64 l.length), (8, i64 i)] []) (fun i => i ≤ l.length ∧ idxA (l.drop i) w i = idxA l w 0) (fun i => l.length - i) 0 ⟨by omega, rfl⟩ (mkS_le rfl ?_ trivial) ?_
  · simp (maxSteps := 4000000) only [↓reduceIte, Nat.reduceLT, Nat.reduceEqDiff, reduceCtorEq, Nat.reduceAdd, Nat.reduceMul, Int.reduceLE, Int.reduceLT, Int.reduceToNat, Nat.reduceLeDiff, Nat.reduceSub, Int.reduceEq, Nat.reduceBEq, List.replicate, List.set, evB, duo_len]
    try rfl
  · rintro i ⟨hi, hq⟩
    by_cases hlt : i < l.length
    · have d1 : decide ((i : Int) < (l.length : Int)) = true := by simpa using hlt
      have gi := duo_get hlt
      have hdrop : l.drop i = l.getD i (0, 0) :: l.drop (i + 1) := by
        rw [List.drop_eq_getElem_cons hlt]; simp [List.getD, List.getElem?_eq_getElem hlt]
      rw [hdrop, idxA] at hq
      generalize l.getD i (0, 0) = x at gi hq
      obtain ⟨d, a⟩ := x
      simp only at gi hq
      have hwi : IntKind.i64.wrap ((i : Int) + 1) = ((i + 1 : Nat) : Int) := i64_in (by omega) (by omega)
      (repeat (first | refine awp_seq ?_ | refine awp_block ?_ | ((first | refine awp_skip ?_ | refine awp_exit ?_ | refine awp_reg ttok ?_ | (refine awp_draw ttok ?dr_calm ?_; (case dr_calm => decide +kernel)) | refine awp_condM ?_); simp (maxSteps := 4000000) only [↓reduceIte, Nat.reduceLT, Nat.reduceEqDiff, reduceCtorEq, Nat.reduceAdd, Nat.reduceMul, Int.reduceLE, Int.reduceLT, Int.reduceToNat, Nat.reduceLeDiff, Nat.reduceSub, Int.reduceEq, Nat.reduceBEq, List.replicate, List.set, evB, tyA, d1, gi, duo_len]; (repeat (with_reducible refine And.intro ?_ ?_; exact sdX)); (with_reducible first | refine awp_id ?_ | refine id_call ?_ | refine id_and ?_ | refine id_ex ?_ | refine id_all ?_ | refine id_nat ?_ | refine id_le ?_))))
      refine callVC_scal fnok57 (c_HFn d a w t) rfl ?_
      by_cases he : a = w
      · have k1 : (a == w) = true := by rw [he]; simp
        rw [if_pos he] at hq
        simp (maxSteps := 4000000) only [↓reduceIte, Nat.reduceLT, Nat.reduceEqDiff, reduceCtorEq, Nat.reduceAdd, Nat.reduceMul, Int.reduceLE, Int.reduceLT, Int.reduceToNat, Nat.reduceLeDiff, Nat.reduceSub, Int.reduceEq, Nat.reduceBEq, List.replicate, List.set, evB, tyA, k1]
        (repeat (with_reducible refine And.intro ?_ ?_; exact sdX))
        (repeat (first | refine awp_seq ?_ | refine awp_block ?_ | ((first | refine awp_skip ?_ | refine awp_exit ?_ | refine awp_reg ttok ?_ | (refine awp_draw ttok ?dr_calm ?_; (case dr_calm => decide +kernel)) | refine awp_condM ?_); simp (maxSteps := 4000000) only [↓reduceIte, Nat.reduceLT, Nat.reduceEqDiff, reduceCtorEq, Nat.reduceAdd, Nat.reduceMul, Int.reduceLE, Int.reduceLT, Int.reduceToNat, Nat.reduceLeDiff, Nat.reduceSub, Int.reduceEq, Nat.reduceBEq, List.replicate, List.set, evB, tyA, k1]; (repeat (with_reducible refine And.intro ?_ ?_; exact sdX)); (with_reducible first | refine awp_id ?_ | refine id_call ?_ | refine id_and ?_ | refine id_ex ?_ | refine id_all ?_ | refine id_nat ?_ | refine id_le ?_))))
        exact awp_ret (ends_plain (.inr rfl) rfl (by simp (maxSteps := 4000000) only [↓reduceIte, Nat.reduceLT, Nat.reduceEqDiff, reduceCtorEq, Nat.reduceAdd, Nat.reduceMul, Int.reduceLE, Int.reduceLT, Int.reduceToNat, Nat.reduceLeDiff, Nat.reduceSub, Int.reduceEq, Nat.reduceBEq, List.replicate, List.set, evB, hq]))
      · have k1 : (a == w) = false := by rw [beq_eq_false_iff_ne]; exact he
        rw [if_neg he] at hq
        simp (maxSteps := 4000000) only [↓reduceIte, Nat.reduceLT, Nat.reduceEqDiff, reduceCtorEq, Nat.reduceAdd, Nat.reduceMul, Int.reduceLE, Int.reduceLT, Int.reduceToNat, Nat.reduceLeDiff, Nat.reduceSub, Int.reduceEq, Nat.reduceBEq, List.replicate, List.set, evB, tyA, k1]
        (repeat (with_reducible refine And.intro ?_ ?_; exact sdX))
        (repeat (first | refine awp_seq ?_ | refine awp_block ?_ | ((first | refine awp_skip ?_ | refine awp_exit ?_ | refine awp_reg ttok ?_ | (refine awp_draw ttok ?dr_calm ?_; (case dr_calm => decide +kernel)) | refine awp_condM ?_); simp (maxSteps := 4000000) only [↓reduceIte, Nat.reduceLT, Nat.reduceEqDiff, reduceCtorEq, Nat.reduceAdd, Nat.reduceMul, Int.reduceLE, Int.reduceLT, Int.reduceToNat, Nat.reduceLeDiff, Nat.reduceSub, Int.reduceEq, Nat.reduceBEq, List.replicate, List.set, evB, tyA, k1, hwi]; (repeat (with_reducible refine And.intro ?_ ?_; exact sdX)); (with_reducible first | refine awp_id ?_ | refine id_call ?_ | refine id_and ?_ | refine id_ex ?_ | refine id_all ?_ | refine id_nat ?_ | refine id_le ?_))))
        refine ⟨i + 1, ⟨by omega, hq⟩, by omega, mkS_le rfl ?_ trivial⟩
        simp (maxSteps := 4000000) only [↓reduceIte, Nat.reduceLT, Nat.reduceEqDiff, reduceCtorEq, Nat.reduceAdd, Nat.reduceMul, Int.reduceLE, Int.reduceLT, Int.reduceToNat, Nat.reduceLeDiff, Nat.reduceSub, Int.reduceEq, Nat.reduceBEq, List.replicate, List.set, evB]
    · have d1 : decide ((i : Int) < (l.length : Int)) = false := by simpa using hlt
      rw [List.drop_of_length_le (by omega)] at hq
      have hm : idxA l w 0 = -1 := by rw [← hq]; rfl
      (repeat (first | refine awp_seq ?_ | refine awp_block ?_ | ((first | refine awp_skip ?_ | refine awp_exit ?_ | refine awp_reg ttok ?_ | (refine awp_draw ttok ?dr_calm ?_; (case dr_calm => decide +kernel)) | refine awp_condM ?_); simp (maxSteps := 4000000) only [↓reduceIte, Nat.reduceLT, Nat.reduceEqDiff, reduceCtorEq, Nat.reduceAdd, Nat.reduceMul, Int.reduceLE, Int.reduceLT, Int.reduceToNat, Nat.reduceLeDiff, Nat.reduceSub, Int.reduceEq, Nat.reduceBEq, List.replicate, List.set, evB, tyA, d1]; (repeat (with_reducible refine And.intro ?_ ?_; exact sdX)); (with_reducible first | refine awp_id ?_ | refine id_call ?_ | refine id_and ?_ | refine id_ex ?_ | refine id_all ?_ | refine id_nat ?_ | refine id_le ?_))))
      exact awp_ret (ends_plain (.inr rfl) rfl (by simp (maxSteps := 4000000) only [↓reduceIte, Nat.reduceLT, Nat.reduceEqDiff, reduceCtorEq, Nat.reduceAdd, Nat.reduceMul, Int.reduceLE, Int.reduceLT, Int.reduceToNat, Nat.reduceLeDiff, Nat.reduceSub, Int.reduceEq, Nat.reduceBEq, List.replicate, List.set, evB, hm]))
def hG (A : List (Int × Int)) (N : List (List Int)) (i j r : Nat) : AObj := { sz := 2, rows := mvs (if r < i then (rowM (N.getD r [])).map (hm A) else if r = i then hmP A (rowM (N.getD r [])) j else rowM (N.getD r [])) }
theorem hG_start (A : List (Int × Int)) (N : List (List Int)) (r : Nat) : hG A N 0 0 r = rowObj N r := by
  unfold hG rowObj
  rw [if_neg (Nat.not_lt_zero _), hmP_zero]
  split <;> rfl
theorem hG_at (A : List (Int × Int)) (N : List (List Int)) (i j : Nat) : hG A N i j i = { sz := 2, rows := mvs (hmP A (rowM (N.getD i [])) j) } := by
  unfold hG; rw [if_neg (Nat.lt_irrefl _), if_pos rfl]
theorem hG_ne (A : List (Int × Int)) (N : List (List Int)) {i j l r : Nat} (h : r ≠ i) : hG A N i j r = hG A N i l r := by
  unfold hG; rw [if_neg h, if_neg h]
theorem hG_next (A : List (Int × Int)) (N : List (List Int)) (i r : Nat) : hG A N i (rowM (N.getD i [])).length r = hG A N (i + 1) 0 r := by
  unfold hG
  by_cases h1 : r < i
  · rw [if_pos h1, if_pos (by omega)]
  · rw [if_neg h1]
    by_cases h2 : r = i
    · subst h2
      rw [if_pos rfl, if_pos (Nat.lt_succ_self _), hmP_all]
    · rw [if_neg h2, if_neg (by omega)]
      by_cases h3 : r = i + 1
      · rw [if_pos h3, hmP_zero]
      · rw [if_neg h3]
set_option maxRecDepth 20000 in
set_option maxHeartbeats 32000000 in
theorem c_HNfa {L k : Nat} {N : List (List Int)} (h : NOk L k N) (hL : L ≤ 1000) (hk : 1 ≤ k ∧ k ≤ 2000) (st : Nat) (F : List Bool) (hF : F.length = k) (f : Bool) (lb : List Lab) (part : Int) (hlb : lb.length ≤ 1000) :
    Contract Try.prog 19 [dfaD L st F N, .sl f (tri lb), i64 part] (nfaD (acts lb part lb.length).length st F (hidM (acts lb part lb.length) N)) [] := by
  refine contract_of_awpV ttok (rs := [.cell 6 27]) Try.func19 rfl Try.ntmps19 (by simp) rfl fun E => ?_
  have hl := h.len
  have hA := c_Acts f lb part (by omega)
  have hAl := acts_len lb part lb.length
  have hN := c_DNfaO h hL hk st F hF
  generalize acts lb part lb.length = A at *
  (repeat (first | refine awp_seq ?_ | refine awp_block ?_ | ((first | refine awp_skip ?_ | refine awp_exit ?_ | refine awp_reg ttok ?_ | (refine awp_draw ttok ?dr_calm ?_; (case dr_calm => decide +kernel)) | refine awp_condM ?_); simp (maxSteps := 4000000) only [↓reduceIte, Nat.reduceLT, Nat.reduceEqDiff, reduceCtorEq, Nat.reduceAdd, Nat.reduceMul, Int.reduceLE, Int.reduceLT, Int.reduceToNat, Nat.reduceLeDiff, Nat.reduceSub, Int.reduceEq, Nat.reduceBEq, List.replicate, List.set, evB, tyA, dfaD]; (repeat (with_reducible refine And.intro ?_ ?_; exact sdX)); (with_reducible first | refine awp_id ?_ | refine id_call ?_ | refine id_and ?_ | refine id_ex ?_ | refine id_all ?_ | refine id_nat ?_ | refine id_le ?_))))
  refine callVC_mk fnok54 hA rfl ?_
  simp (maxSteps := 4000000) only [↓reduceIte, Nat.reduceLT, Nat.reduceEqDiff, reduceCtorEq, Nat.reduceAdd, Nat.reduceMul, Int.reduceLE, Int.reduceLT, Int.reduceToNat, Nat.reduceLeDiff, Nat.reduceSub, Int.reduceEq, Nat.reduceBEq, List.replicate, List.set, evB, tyA]
  (repeat (with_reducible refine And.intro ?_ ?_; exact sdX))
  have hAt : List.take A.length A = A := List.take_of_length_le (Nat.le_refl _)
  refine awp_pure 7 (d := .own 102002 0 A.length) evX (by simp (maxSteps := 4000000) only [↓reduceIte, Nat.reduceLT, Nat.reduceEqDiff, reduceCtorEq, Nat.reduceAdd, Nat.reduceMul, Int.reduceLE, Int.reduceLT, Int.reduceToNat, Nat.reduceLeDiff, Nat.reduceSub, Int.reduceEq, Nat.reduceBEq, List.replicate, List.set, evB]; rfl) (by simp (maxSteps := 4000000) only [↓reduceIte, Nat.reduceLT, Nat.reduceEqDiff, reduceCtorEq, Nat.reduceAdd, Nat.reduceMul, Int.reduceLE, Int.reduceLT, Int.reduceToNat, Nat.reduceLeDiff, Nat.reduceSub, Int.reduceEq, Nat.reduceBEq, List.replicate, List.set, evB, duo_len]) ?_
  refine awp_at 51 [(3, _), (6, _), (7, _)] [(1000, _), (1001, _)] rfl (by (first | simp (maxSteps := 4000000) only [↓reduceIte, Nat.reduceLT, Nat.reduceEqDiff, reduceCtorEq, Nat.reduceAdd, Nat.reduceMul, Int.reduceLE, Int.reduceLT, Int.reduceToNat, Nat.reduceLeDiff, Nat.reduceSub, Int.reduceEq, Nat.reduceBEq, List.replicate, List.set, evB, duo_take, hAt] | skip); exact ⟨rfl, rfl, rfl⟩) (by (first | simp (maxSteps := 4000000) only [↓reduceIte, Nat.reduceLT, Nat.reduceEqDiff, reduceCtorEq, Nat.reduceAdd, Nat.reduceMul, Int.reduceLE, Int.reduceLT, Int.reduceToNat, Nat.reduceLeDiff, Nat.reduceSub, Int.reduceEq, Nat.reduceBEq, List.replicate, List.set, evB, duo_take, hAt] | skip); exact ⟨rfl, rfl⟩) ?_
  have hok : objsOk ({ sz := 1, rows := bos F } :: { sz := 1, rows := (List.range k).map fun r => [D.own (r + 2) 0 (rowLen N r)], flat := false } :: (List.range k).map (rowObj N)) 0 = true := by
    have h3 : ∀ (l : List Nat) (j : Nat), objsOk (l.map (rowObj N)) j = true := fun l => by
      induction l with
      | nil => exact fun _ => rfl
      | cons x l ih =>
        intro j
        rw [List.map_cons, objsOk, ih]
        rfl
    simp only [objsOk, h3, Bool.and_true, Bool.or_true, Bool.true_or, Bool.not_false, Bool.true_and, Bool.false_or, List.all_eq_true]
    intro row hr
    obtain ⟨r, _, rfl⟩ := List.mem_map.1 hr
    simp [D.all, D.allL]
  (repeat (first | refine awp_seq ?_ | refine awp_block ?_ | ((first | refine awp_skip ?_ | refine awp_exit ?_ | refine awp_reg ttok ?_ | (refine awp_draw ttok ?dr_calm ?_; (case dr_calm => decide +kernel)) | refine awp_condM ?_); simp (maxSteps := 4000000) only [↓reduceIte, Nat.reduceLT, Nat.reduceEqDiff, reduceCtorEq, Nat.reduceAdd, Nat.reduceMul, Int.reduceLE, Int.reduceLT, Int.reduceToNat, Nat.reduceLeDiff, Nat.reduceSub, Int.reduceEq, Nat.reduceBEq, List.replicate, List.set, evB, tyA]; (repeat (with_reducible refine And.intro ?_ ?_; exact sdX)); (with_reducible first | refine awp_id ?_ | refine id_call ?_ | refine id_and ?_ | refine id_ex ?_ | refine id_all ?_ | refine id_nat ?_ | refine id_le ?_))))
  refine callVC_mk fnok55 hN hok ?_
  rw [adopt_two (B := 2000) (nid := 103001) (hp := [(1000, { sz := 4, rows := [[i64 L, i64 st, .sl false (bos F), .sl false (iis N)]], flat := false }), (1001, { sz := 4, rows := [[i64 0, i64 0, .sl true [], .sl true []]], flat := false })]) rfl (by decide) (LowS.upd (LowS.lk rfl) rfl) (LowH.lk rfl) k _ (rowLen N) (rowObj N) rfl (fun _ => rfl)]
  simp (maxSteps := 4000000) only [↓reduceIte, Nat.reduceLT, Nat.reduceEqDiff, reduceCtorEq, Nat.reduceAdd, Nat.reduceMul, Int.reduceLE, Int.reduceLT, Int.reduceToNat, Nat.reduceLeDiff, Nat.reduceSub, Int.reduceEq, Nat.reduceBEq, List.replicate, List.set, evB, tyA, nfaD]
  (repeat (with_reducible refine And.intro ?_ ?_; exact sdX))
  have hrl : ∀ r, rowLen N r ≤ 1000 := fun r => by
    rcases Nat.lt_or_ge r N.length with q | q
    · have h1 := rowP_len (N.getD r []) (N.getD r []).length
      have h2 := (h.get (s := r) (by omega)).1
      unfold rowLen rowM; omega
    · unfold rowLen
      rw [List.getD_eq_getElem?_getD, List.getElem?_eq_none q]
      simp [rowM, rowP]
  have hkO : ∀ j, j < 103003 ∨ 103003 + k ≤ j → (ownRowsB 103003 k (rowLen N)).map (D.killL j) = ownRowsB 103003 k (rowLen N) := fun j hj => ownRowsB_kill hj
  have hkO1 := hkO 3002 (.inl (by decide))
  have hkO2 := hkO 10003 (.inl (by decide))
  have hlN : lk (famB 103003 k (rowObj N)) 1001 = none := lk_famBN (.inl (by decide))
  (repeat (first | refine awp_seq ?_ | refine awp_block ?_ | ((first | refine awp_skip ?_ | refine awp_exit ?_ | refine awp_reg ttok ?_ | (refine awp_draw ttok ?dr_calm ?_; (case dr_calm => decide +kernel)) | refine awp_condM ?_); simp (maxSteps := 4000000) only [↓reduceIte, Nat.reduceLT, Nat.reduceEqDiff, reduceCtorEq, Nat.reduceAdd, Nat.reduceMul, Int.reduceLE, Int.reduceLT, Int.reduceToNat, Nat.reduceLeDiff, Nat.reduceSub, Int.reduceEq, Nat.reduceBEq, List.replicate, List.set, evB, tyA, duo_len, ownRowsB_len, hkO1]; (repeat (with_reducible refine And.intro ?_ ?_; exact sdX)); (with_reducible first | refine awp_id ?_ | refine id_call ?_ | refine id_and ?_ | refine id_ex ?_ | refine id_all ?_ | refine id_nat ?_ | refine id_le ?_))))
  refine awp_loop (X := Nat) (fun i => mkS 51 [(6, .ptr 1001 0 0), (7, .sl false (duo A)), (8, .ptr 3002 0 0), (22, i64 k), (23, i64 i)] ([(1001, { sz := 4, rows := [[i64 0, i64 0, .sl true [], .sl true []]], flat := false }), (103001, { sz := 1, rows := bos F }), (103002, { sz := 1, rows := ownRowsB 103003 k (rowLen N), flat := false }), (3002, { sz := 4, rows := [[i64 A.length, i64 st, .own 103001 0 k, .own 103002 0 k]], flat := false })] ++ famB 103003 k (hG A N i 0)))
    (fun i => i ≤ k) (fun i => k - i) 0 (Nat.zero_le _) (mkS_le rfl ?_ ?_) ?_
  · simp (maxSteps := 4000000) only [↓reduceIte, Nat.reduceLT, Nat.reduceEqDiff, reduceCtorEq, Nat.reduceAdd, Nat.reduceMul, Int.reduceLE, Int.reduceLT, Int.reduceToNat, Nat.reduceLeDiff, Nat.reduceSub, Int.reduceEq, Nat.reduceBEq, List.replicate, List.set, evB]
    try rfl
  · simp (maxSteps := 4000000) only [↓reduceIte, Nat.reduceLT, Nat.reduceEqDiff, reduceCtorEq, Nat.reduceAdd, Nat.reduceMul, Int.reduceLE, Int.reduceLT, Int.reduceToNat, Nat.reduceLeDiff, Nat.reduceSub, Int.reduceEq, Nat.reduceBEq, List.replicate, List.set, evB, knowsH_app, knowsH_famB, lk_app, lk_famB, hlN, hkO1]
    intro r hr
    rw [lk_famB hr, hG_start]; rfl
  · intro i hi
    by_cases hlt : i < k
    · have d1 : decide ((i : Int) < (k : Int)) = true := by simpa using hlt
      have hwi : IntKind.i64.wrap ((i : Int) + 1) = ((i + 1 : Nat) : Int) := i64_in (by omega) (by omega)
      have hgc := ownRowsB_get (B := 103003) (g := rowLen N) hlt
      have hMl : rowLen N i = (rowM (N.getD i [])).length := rfl
      have hrli := hrl i
      have hnx := hG_next A N i
      have hat := fun j => hG_at A N i j
      generalize rowM (N.getD i []) = r at *
      rw [hMl] at hgc hrli
      (repeat (first | refine awp_seq ?_ | refine awp_block ?_ | ((first | refine awp_skip ?_ | refine awp_exit ?_ | refine awp_reg ttok ?_ | (refine awp_draw ttok ?dr_calm ?_; (case dr_calm => decide +kernel)) | refine awp_condM ?_); simp (maxSteps := 4000000) only [↓reduceIte, Nat.reduceLT, Nat.reduceEqDiff, reduceCtorEq, Nat.reduceAdd, Nat.reduceMul, Int.reduceLE, Int.reduceLT, Int.reduceToNat, Nat.reduceLeDiff, Nat.reduceSub, Int.reduceEq, Nat.reduceBEq, List.replicate, List.set, evB, tyA, d1, ownRowsB_len, hgc]; (repeat (with_reducible refine And.intro ?_ ?_; exact sdX)); (with_reducible first | refine awp_id ?_ | refine id_call ?_ | refine id_and ?_ | refine id_ex ?_ | refine id_all ?_ | refine id_nat ?_ | refine id_le ?_))))
      refine awp_loop (X := Nat) (fun j => mkS 51 [(6, .ptr 1001 0 0), (7, .sl false (duo A)), (8, .ptr 3002 0 0), (9, i64 i), (22, i64 k), (23, i64 i), (30, .own (i + 103003) 0 r.length), (31, i64 r.length), (32, i64 j)] ([(1001, { sz := 4, rows := [[i64 0, i64 0, .sl true [], .sl true []]], flat := false }), (103001, { sz := 1, rows := bos F }), (103002, { sz := 1, rows := ownRowsB 103003 k (rowLen N), flat := false }), (3002, { sz := 4, rows := [[i64 A.length, i64 st, .own 103001 0 k, .own 103002 0 k]], flat := false })] ++ famB 103003 k (hG A N i j)))
        (fun j => j ≤ r.length) (fun j => r.length - j) 0 (Nat.zero_le _) (mkS_le rfl ?_ ?_) ?_
      · simp (maxSteps := 4000000) only [↓reduceIte, Nat.reduceLT, Nat.reduceEqDiff, reduceCtorEq, Nat.reduceAdd, Nat.reduceMul, Int.reduceLE, Int.reduceLT, Int.reduceToNat, Nat.reduceLeDiff, Nat.reduceSub, Int.reduceEq, Nat.reduceBEq, List.replicate, List.set, evB]
        try rfl
      · simp (maxSteps := 4000000) only [↓reduceIte, Nat.reduceLT, Nat.reduceEqDiff, reduceCtorEq, Nat.reduceAdd, Nat.reduceMul, Int.reduceLE, Int.reduceLT, Int.reduceToNat, Nat.reduceLeDiff, Nat.reduceSub, Int.reduceEq, Nat.reduceBEq, List.replicate, List.set, evB, knowsH_app, knowsH_famB]
        intro q hq
        rw [lk_famB hq]
      · intro j hj
        by_cases hjlt : j < r.length
        · have d2 : decide ((j : Int) < (r.length : Int)) = true := by simpa using hjlt
          have hwj : IntKind.i64.wrap ((j : Int) + 1) = ((j + 1 : Nat) : Int) := i64_in (by omega) (by omega)
          have hpl := hmP_len A r hj
          have hgr := mvs_get (l := hmP A r j) (i := j) (by omega)
          rw [hmP_get hjlt] at hgr
          have hs := hmP_set (A := A) hjlt
          have hatj := hat j
          have hatj1 := hat (j + 1)
          have hhm : hm A (r.getD j (0, 0)) = (idxA A (r.getD j (0, 0)).1 0, (r.getD j (0, 0)).2) := rfl
          rw [hhm] at hs
          generalize r.getD j (0, 0) = m at *
          obtain ⟨a, t⟩ := m
          simp only at hgr hs
          have hI := c_IndexN false A a t (by omega)
          (repeat (first | refine awp_seq ?_ | refine awp_block ?_ | ((first | refine awp_skip ?_ | refine awp_exit ?_ | refine awp_reg ttok ?_ | (refine awp_draw ttok ?dr_calm ?_; (case dr_calm => decide +kernel)) | refine awp_condM ?_); simp (maxSteps := 4000000) only [↓reduceIte, Nat.reduceLT, Nat.reduceEqDiff, reduceCtorEq, Nat.reduceAdd, Nat.reduceMul, Int.reduceLE, Int.reduceLT, Int.reduceToNat, Nat.reduceLeDiff, Nat.reduceSub, Int.reduceEq, Nat.reduceBEq, List.replicate, List.set, evB, tyA, d2, lk_famB hlt, hatj, hpl, mvs_len, hgr]; (repeat (with_reducible refine And.intro ?_ ?_; exact sdX)); (with_reducible first | refine awp_id ?_ | refine id_call ?_ | refine id_and ?_ | refine id_ex ?_ | refine id_all ?_ | refine id_nat ?_ | refine id_le ?_))))
          have hse : (mvs (hmP A r j)).set j [D.v (Value.int IntKind.i64 (idxA A a 0)), D.v (Value.int IntKind.i64 t)] = mvs (hmP A r (j + 1)) := by rw [← hs]; simp [mvs]
          refine awp_drawG ttok ((0, none) :: (1, none) :: (2, none) :: (3, none) :: (4, none) :: (5, none) :: (6, none) :: (7, none) :: (8, some [0, 1, 2, 3, 4, 5]) :: (9, none) :: (10, none) :: (11, some []) :: []) ([]) ([]) (by decide +kernel) fun O hO => ?_; simp only [OpsAre, Nat.reduceAdd, and_true, List.toList_toArray, List.append_eq, List.cons_append, List.nil_append] at hO; simp (maxSteps := 4000000) only [↓reduceIte, Nat.reduceLT, Nat.reduceEqDiff, reduceCtorEq, Nat.reduceAdd, Nat.reduceMul, Int.reduceLE, Int.reduceLT, Int.reduceToNat, Nat.reduceLeDiff, Nat.reduceSub, Int.reduceEq, Nat.reduceBEq, List.replicate, List.set, evB, tyA, hO, ownRowsB_len, hkO2, hgc, lk_famB hlt, hatj, hpl, mvs_len, duo_len, hgr]; (repeat (with_reducible refine And.intro ?_ ?_; exact sdX))
          refine callVC_scal fnok56 hI rfl ?_
          simp (maxSteps := 4000000) only [↓reduceIte, Nat.reduceLT, Nat.reduceEqDiff, reduceCtorEq, Nat.reduceAdd, Nat.reduceMul, Int.reduceLE, Int.reduceLT, Int.reduceToNat, Nat.reduceLeDiff, Nat.reduceSub, Int.reduceEq, Nat.reduceBEq, List.replicate, List.set, evB, tyA, hO, ownRowsB_len, hkO2, hgc, lk_famB hlt, hatj, hpl, mvs_len, duo_len, hgr, hse]
          (repeat (with_reducible refine And.intro ?_ ?_; exact sdX))
          (repeat (first | refine awp_seq ?_ | refine awp_block ?_ | ((first | refine awp_skip ?_ | refine awp_exit ?_ | refine awp_reg ttok ?_ | (refine awp_draw ttok ?dr_calm ?_; (case dr_calm => decide +kernel)) | refine awp_condM ?_); simp (maxSteps := 4000000) only [↓reduceIte, Nat.reduceLT, Nat.reduceEqDiff, reduceCtorEq, Nat.reduceAdd, Nat.reduceMul, Int.reduceLE, Int.reduceLT, Int.reduceToNat, Nat.reduceLeDiff, Nat.reduceSub, Int.reduceEq, Nat.reduceBEq, List.replicate, List.set, evB, tyA, hwj]; (repeat (with_reducible refine And.intro ?_ ?_; exact sdX)); (with_reducible first | refine awp_id ?_ | refine id_call ?_ | refine id_and ?_ | refine id_ex ?_ | refine id_all ?_ | refine id_nat ?_ | refine id_le ?_))))
          refine ⟨j + 1, by omega, by omega, mkS_le rfl ?_ ?_⟩
          · exact evX
          · simp (maxSteps := 4000000) only [↓reduceIte, Nat.reduceLT, Nat.reduceEqDiff, reduceCtorEq, Nat.reduceAdd, Nat.reduceMul, Int.reduceLE, Int.reduceLT, Int.reduceToNat, Nat.reduceLeDiff, Nat.reduceSub, Int.reduceEq, Nat.reduceBEq, List.replicate, List.set, evB, knowsH_app, knowsH_famB, hkO2]
            intro q hq
            by_cases e : q = i
            · rw [if_pos e, e, hatj1]
            · rw [if_neg e, lk_famB hq, hG_ne A N e (l := j + 1)]; rfl
        · have d2 : decide ((j : Int) < (r.length : Int)) = false := by simpa using hjlt
          obtain rfl : j = r.length := by omega
          (repeat (first | refine awp_seq ?_ | refine awp_block ?_ | ((first | refine awp_skip ?_ | refine awp_exit ?_ | refine awp_reg ttok ?_ | (refine awp_draw ttok ?dr_calm ?_; (case dr_calm => decide +kernel)) | refine awp_condM ?_); simp (maxSteps := 4000000) only [↓reduceIte, Nat.reduceLT, Nat.reduceEqDiff, reduceCtorEq, Nat.reduceAdd, Nat.reduceMul, Int.reduceLE, Int.reduceLT, Int.reduceToNat, Nat.reduceLeDiff, Nat.reduceSub, Int.reduceEq, Nat.reduceBEq, List.replicate, List.set, evB, tyA, d2, hwi]; (repeat (with_reducible refine And.intro ?_ ?_; exact sdX)); (with_reducible first | refine awp_id ?_ | refine id_call ?_ | refine id_and ?_ | refine id_ex ?_ | refine id_all ?_ | refine id_nat ?_ | refine id_le ?_))))
          refine ⟨i + 1, by omega, by omega, mkS_le rfl ?_ ?_⟩
          · exact evX
          · simp (maxSteps := 4000000) only [↓reduceIte, Nat.reduceLT, Nat.reduceEqDiff, reduceCtorEq, Nat.reduceAdd, Nat.reduceMul, Int.reduceLE, Int.reduceLT, Int.reduceToNat, Nat.reduceLeDiff, Nat.reduceSub, Int.reduceEq, Nat.reduceBEq, List.replicate, List.set, evB, knowsH_app, knowsH_famB]
            intro q hq
            rw [lk_famB hq, hnx]
    · have d1 : decide ((i : Int) < (k : Int)) = false := by simpa using hlt
      obtain rfl : i = k := by omega
      obtain ⟨pp, hpe, hpp⟩ := purLL_ownB (B := 103003) (h := lk ([(1001, { sz := 4, rows := [[i64 0, i64 0, .sl true [], .sl true []]], flat := false }), (103001, { sz := 1, rows := bos F }), (103002, { sz := 1, rows := ownRowsB 103003 i (rowLen N), flat := false }), (3002, { sz := 4, rows := [[i64 A.length, i64 st, .own 103001 0 i, .own 103002 0 i]], flat := false })] ++ famB 103003 i (hG A N i 0))) (len := rowLen N) (g := hG A N i 0) (List.range i) (fun r hr => ⟨by
          have hr' := List.mem_range.1 hr
          rw [lk_app, lk_none (by simp)]
          exact lk_famB hr', rfl, by
          unfold hG
          simp only
          rw [mvs_len, if_pos (List.mem_range.1 hr), List.length_map]; rfl⟩)
      have hrows : ((List.range i).map fun r => [D.sl false (hG A N i 0 r).rows]) = mmv (hidM A N) := by
        apply List.ext_getElem
        · simp [mmv, hidM, movD, hl]
        · intro r h1 h2
          have hr : r < N.length := by simpa [mmv, hidM, movD] using h2
          have hri : r < i := by omega
          simp [mmv, hidM, movD, hG, List.getD, hr, hri]
      refine awp_pureO 103002 (o := { sz := 1, rows := ownRowsB 103003 i (rowLen N), flat := false }) evX rfl hpe hpp (by simp) ?_
      simp only [hrows]
      have hcon : ∀ j, j < 103003 → ((List.range i).map (· + 103003)).contains j = false := fun j h => by
        simp only [List.contains_eq_mem, List.mem_map, List.mem_range, decide_eq_false_iff_not]
        rintro ⟨r, h1, q⟩; omega
      have c1 := hcon 1001 (by decide)
      have c2 := hcon 3002 (by decide)
      have c3 := hcon 103001 (by decide)
      have c4 := hcon 103002 (by decide)
      have hil : (hidM A N).length = i := by simp [hidM, movD, hl]
      have hit : List.take i (hidM A N) = hidM A N := List.take_of_length_le (by omega)
      have hft : List.take i F = F := List.take_of_length_le (by omega)
      refine awp_at 51 [(6, _), (7, _), (8, _), (22, _), (23, _)] [(1001, _), (3002, _), (103001, _), (103002, _)] rfl (by (first | simp (maxSteps := 4000000) only [↓reduceIte, Nat.reduceLT, Nat.reduceEqDiff, reduceCtorEq, Nat.reduceAdd, Nat.reduceMul, Int.reduceLE, Int.reduceLT, Int.reduceToNat, Nat.reduceLeDiff, Nat.reduceSub, Int.reduceEq, Nat.reduceBEq, List.replicate, List.set, evB, c1, c2, c3, c4] | skip); exact ⟨rfl, rfl, rfl, rfl, rfl⟩) (by (first | simp (maxSteps := 4000000) only [↓reduceIte, Nat.reduceLT, Nat.reduceEqDiff, reduceCtorEq, Nat.reduceAdd, Nat.reduceMul, Int.reduceLE, Int.reduceLT, Int.reduceToNat, Nat.reduceLeDiff, Nat.reduceSub, Int.reduceEq, Nat.reduceBEq, List.replicate, List.set, evB, c1, c2, c3, c4] | skip); exact ⟨rfl, rfl, rfl, rfl⟩) ?_
      refine awp_pureO 3002 (by simp (maxSteps := 4000000) only [↓reduceIte, Nat.reduceLT, Nat.reduceEqDiff, reduceCtorEq, Nat.reduceAdd, Nat.reduceMul, Int.reduceLE, Int.reduceLT, Int.reduceToNat, Nat.reduceLeDiff, Nat.reduceSub, Int.reduceEq, Nat.reduceBEq, List.replicate, List.set, evB]; rfl) rfl (by simp (maxSteps := 4000000) only [↓reduceIte, Nat.reduceLT, Nat.reduceEqDiff, reduceCtorEq, Nat.reduceAdd, Nat.reduceMul, Int.reduceLE, Int.reduceLT, Int.reduceToNat, Nat.reduceLeDiff, Nat.reduceSub, Int.reduceEq, Nat.reduceBEq, List.replicate, List.set, evB, bos_len, bos_take, mmv_len, mmv_take, hft, hil, hit, hF]; rfl) (by simp (maxSteps := 4000000) only [↓reduceIte, Nat.reduceLT, Nat.reduceEqDiff, reduceCtorEq, Nat.reduceAdd, Nat.reduceMul, Int.reduceLE, Int.reduceLT, Int.reduceToNat, Nat.reduceLeDiff, Nat.reduceSub, Int.reduceEq, Nat.reduceBEq, List.replicate, List.set, evB, bos_len, mmv_len, hil, hF]) (by decide) ?_
      refine awp_at 51 [(6, _), (7, _), (8, _), (22, _), (23, _)] [(1001, _), (3002, _)] rfl (by (first | simp (maxSteps := 4000000) only [↓reduceIte, Nat.reduceLT, Nat.reduceEqDiff, reduceCtorEq, Nat.reduceAdd, Nat.reduceMul, Int.reduceLE, Int.reduceLT, Int.reduceToNat, Nat.reduceLeDiff, Nat.reduceSub, Int.reduceEq, Nat.reduceBEq, List.replicate, List.set, evB] | skip); exact ⟨rfl, rfl, rfl, rfl, rfl⟩) (by (first | simp (maxSteps := 4000000) only [↓reduceIte, Nat.reduceLT, Nat.reduceEqDiff, reduceCtorEq, Nat.reduceAdd, Nat.reduceMul, Int.reduceLE, Int.reduceLT, Int.reduceToNat, Nat.reduceLeDiff, Nat.reduceSub, Int.reduceEq, Nat.reduceBEq, List.replicate, List.set, evB] | skip); exact ⟨rfl, rfl⟩) ?_
      (repeat (first | refine awp_seq ?_ | refine awp_block ?_ | ((first | refine awp_skip ?_ | refine awp_exit ?_ | refine awp_reg ttok ?_ | (refine awp_draw ttok ?dr_calm ?_; (case dr_calm => decide +kernel)) | refine awp_condM ?_); simp (maxSteps := 4000000) only [↓reduceIte, Nat.reduceLT, Nat.reduceEqDiff, reduceCtorEq, Nat.reduceAdd, Nat.reduceMul, Int.reduceLE, Int.reduceLT, Int.reduceToNat, Nat.reduceLeDiff, Nat.reduceSub, Int.reduceEq, Nat.reduceBEq, List.replicate, List.set, evB, tyA, d1]; (repeat (with_reducible refine And.intro ?_ ?_; exact sdX)); (with_reducible first | refine awp_id ?_ | refine id_call ?_ | refine id_and ?_ | refine id_ex ?_ | refine id_all ?_ | refine id_nat ?_ | refine id_le ?_))))
      exact awp_ret (endsV [] (.inr rfl) (by simp (maxSteps := 4000000) only [↓reduceIte, Nat.reduceLT, Nat.reduceEqDiff, reduceCtorEq, Nat.reduceAdd, Nat.reduceMul, Int.reduceLE, Int.reduceLT, Int.reduceToNat, Nat.reduceLeDiff, Nat.reduceSub, Int.reduceEq, Nat.reduceBEq, List.replicate, List.set, evB, tyA, nfaD]; rfl) trivial evX)
def fix5 : List Lab := [(0, 1, 0), (0, 1, 1), (0, 2, 0), (1, 0, 0), (2, 1, 0)]
theorem idxA_no : ∀ (l : List (Int × Int)) (w : Int) (k : Nat), (∀ x ∈ l, x.2 ≠ w) → idxA l w k = -1
  | [], _, _, _ => rfl
  | x :: l, w, k, h => by
    rw [idxA, if_neg (h x (by simp))]
    exact idxA_no l w (k + 1) fun y hy => h y (by simp [hy])
theorem idxA_ge : ∀ (l : List (Int × Int)) (w : Int) (k : Nat), (∃ x ∈ l, x.2 = w) → (k : Int) ≤ idxA l w k
  | [], _, _, h => by simp at h
  | x :: l, w, k, h => by
    rw [idxA]
    by_cases e : x.2 = w
    · rw [if_pos e]; exact Int.le_refl _
    · rw [if_neg e]
      obtain ⟨y, hy, he⟩ := h
      rcases List.mem_cons.1 hy with rfl | hy
      · exact absurd he e
      · have := idxA_ge l w (k + 1) ⟨y, hy, he⟩
        omega
theorem idxA_bd : ∀ (l : List (Int × Int)) (w : Int) (k : Nat), -1 ≤ idxA l w k ∧ idxA l w k < ((k + l.length : Nat) : Int)
  | [], w, k => by simp [idxA]; omega
  | x :: l, w, k => by
    rw [idxA, List.length_cons]
    have := idxA_bd l w (k + 1)
    split <;> omega
theorem actOf_mem2 {part : Int} {x : Lab} {i : Nat} (h : (x.1 == part || x.2.1 == part) = true) : ∃ y, actOf part x i = [y] ∧ y.2 = (i : Int) := by
  unfold actOf
  by_cases h1 : part = x.1
  · rw [if_pos h1]; exact ⟨_, rfl, rfl⟩
  · rw [if_neg h1]
    have h2 : part = x.2.1 := by
      simp only [Bool.or_eq_true, beq_iff_eq] at h
      rcases h with h | h
      · exact absurd h.symm h1
      · exact h.symm
    rw [if_pos h2]; exact ⟨_, rfl, rfl⟩
theorem actOf_no {part : Int} {x : Lab} {i : Nat} (h : (x.1 == part || x.2.1 == part) = false) : actOf part x i = [] := by
  simp only [Bool.or_eq_false_iff, beq_eq_false_iff_ne] at h
  unfold actOf
  rw [if_neg (fun e => h.1 e.symm), if_neg (fun e => h.2 e.symm)]
def hasI (l : List Lab) (part : Int) (j : Nat) : Bool := (l.getD j (0, 0, 0)).1 == part || (l.getD j (0, 0, 0)).2.1 == part
theorem acts_in (l : List Lab) (part : Int) : ∀ n, ∀ x ∈ acts l part n, ∃ j : Nat, j < n ∧ x.2 = (j : Int) ∧ hasI l part j = true
  | 0, x, h => by simp [acts] at h
  | n + 1, x, h => by
    simp only [acts, List.mem_append] at h
    rcases h with h | h
    · obtain ⟨j, h1, h2, h3⟩ := acts_in l part n x h
      exact ⟨j, by omega, h2, h3⟩
    · cases hh : hasI l part n
      · rw [actOf_no hh] at h; cases h
      · obtain ⟨y, hy, he⟩ := actOf_mem2 (i := n) hh
        rw [hy, List.mem_singleton] at h
        subst h
        exact ⟨n, by omega, he, hh⟩
theorem acts_has (l : List Lab) (part : Int) {j : Nat} (hh : hasI l part j = true) : ∀ n, j < n → ∃ x ∈ acts l part n, x.2 = (j : Int)
  | 0, h => by omega
  | n + 1, h => by
    simp only [acts, List.mem_append]
    by_cases e : j = n
    · subst e
      obtain ⟨y, hy, he⟩ := actOf_mem2 (i := j) hh
      refine ⟨y, .inr ?_, he⟩
      show y ∈ actOf part (l.getD j (0, 0, 0)) j
      rw [hy]; simp
    · obtain ⟨x, hx, he⟩ := acts_has l part hh n (by omega)
      exact ⟨x, .inl hx, he⟩
section
variable {k : Nat} {N : List (List Int)} {lb : List Lab} {part : Int}
theorem hasP_nat {a : Nat} (ha : a < lb.length) : hasP lb part (a : Int) = hasI lb part a := by
  unfold hasP hasI
  rw [decide_eq_true (by omega), decide_eq_true (by omega), Bool.true_and, Bool.true_and, Int.toNat_natCast]
theorem hid_idx_no {a : Nat} (ha : a < lb.length) (h : hasP lb part (a : Int) = false) : idxA (acts lb part lb.length) (a : Int) 0 = -1 := by
  refine idxA_no _ _ _ fun x hx e => ?_
  obtain ⟨j, h1, h2, h3⟩ := acts_in lb part _ x hx
  have : j = a := by omega
  subst this
  rw [hasP_nat ha, h3] at h
  cases h
theorem hid_idx_yes {a : Nat} (ha : a < lb.length) (h : hasP lb part (a : Int) = true) : 0 ≤ idxA (acts lb part lb.length) (a : Int) 0 := by
  rw [hasP_nat ha] at h
  exact idxA_ge _ _ 0 (acts_has lb part h _ ha)
theorem wordOf_nn (ws : List Int) : ∀ x ∈ wordOf lb part ws, 0 ≤ x := fun x hx => by
  obtain ⟨w, hw, h⟩ := List.mem_flatMap.1 hx
  by_cases hp : hasP lb part w = true
  · rw [if_pos hp, List.mem_singleton] at h
    have h2 := hp
    simp only [hasP, Bool.and_eq_true, decide_eq_true_eq] at h2
    obtain ⟨a, rfl⟩ := Int.eq_ofNat_of_zero_le h2.1.1
    rw [h]
    exact hid_idx_yes (by omega) hp
  · rw [if_neg hp] at h; cases h
theorem hidM_len (A : List (Int × Int)) (N : List (List Int)) : (hidM A N).length = N.length := by simp [hidM, movD]
theorem hidM_get (A : List (Int × Int)) {s : Nat} (hs : s < N.length) : (hidM A N).getD s [] = (rowM (N.getD s [])).map (hm A) := by
  have hm' : s < (movD N).length := by rw [movD_len]; exact hs
  rw [← movD_get hs]
  simp [hidM, List.getD, List.getElem?_eq_getElem hm']
theorem hidM_ok {L : Nat} (h : NOk L k N) (A : List (Int × Int)) : MOk A.length k (hidM A N) := by
  refine ⟨by rw [hidM_len, h.len], fun r hr x hx => ?_⟩
  obtain ⟨q, hq, rfl⟩ := List.mem_map.1 hr
  obtain ⟨y, hy, rfl⟩ := List.mem_map.1 hx
  have := (movD_ok h).row q hq y hy
  have hb := idxA_bd A y.1 0
  unfold hm
  simp only
  omega
theorem hidM_rl {L : Nat} (h : NOk L k N) (A : List (Int × Int)) (s : Nat) : ((hidM A N).getD s []).length ≤ L := by
  rcases Nat.lt_or_ge s N.length with q | q
  · rw [hidM_get A q, List.length_map, ← movD_get q]
    exact movD_rl h s
  · rw [List.getD_eq_getElem?_getD, List.getElem?_eq_none (by rw [hidM_len]; exact q)]; simp
theorem hidM_mem {L : Nat} (h : NOk L k N) (A : List (Int × Int)) {s : Nat} {b t : Int} : (b, t) ∈ (hidM A N).getD s [] ↔ s < k ∧ ∃ a : Nat, a < L ∧ b = idxA A (a : Int) 0 ∧ t = toD N s a ∧ 0 ≤ t := by
  have hl := h.len
  rcases Nat.lt_or_ge s N.length with q | q
  · rw [hidM_get A q]
    have hr := (h.get (show s < k by omega)).1
    constructor
    · intro hm'
      obtain ⟨⟨u, v⟩, hy, he⟩ := List.mem_map.1 hm'
      obtain ⟨a, h1, h2, h3, h4⟩ := rowP_mem.1 hy
      simp only [hm, Prod.mk.injEq] at he
      refine ⟨by omega, a, by omega, by rw [← he.1, h2], ?_, by rw [← he.2]; exact h4⟩
      rw [toD_good h (by omega) (by omega), ← he.2, h3]
    · rintro ⟨h0, a, h1, h2, h3, h4⟩
      refine List.mem_map.2 ⟨((a : Int), t), rowP_mem.2 ⟨a, by omega, rfl, ?_, h4⟩, by rw [hm, h2]⟩
      rw [h3, toD_good h h0 h1]
  · rw [List.getD_eq_getElem?_getD, List.getElem?_eq_none (by rw [hidM_len]; exact q)]
    simp only [Option.getD_none, List.not_mem_nil, false_iff, not_and]
    omega
theorem hid_takes (h : NOk lb.length k N) (F : List Bool) (hF : F.length = k) : ∀ (w : List Int) (X : List Int) (s : Int), s ∈ cloL (hidM (acts lb part lb.length) N) X → endsD F N s w = true → finL F (takS (hidM (acts lb part lb.length) N) (cloL (hidM (acts lb part lb.length) N) X) (wordOf lb part w)) = true
  | [], X, s, hs, he => by
    have hok := hidM_ok h (acts lb part lb.length)
    obtain ⟨y, rfl, hy⟩ := (cloL_mem hok).1 hs
    have hyl := hy.lt
    rw [hidM_len, h.len] at hyl
    unfold finL
    refine List.any_eq_true.2 ⟨_, hs, ?_⟩
    have : F.getD y false = true := by simpa [endsD, runD] using he
    rw [decide_eq_true (by omega), decide_eq_true (by omega), Int.toNat_natCast, this]; rfl
  | a :: w, X, s, hs, he => by
    have hok := hidM_ok h (acts lb part lb.length)
    obtain ⟨y, rfl, hy⟩ := (cloL_mem hok).1 hs
    have hyl := hy.lt
    rw [hidM_len, h.len] at hyl
    rw [ends_cons] at he
    by_cases ha : 0 ≤ a ∧ a < (lb.length : Int)
    · obtain ⟨b, rfl⟩ := Int.eq_ofNat_of_zero_le ha.1
      have hb : b < lb.length := by omega
      have ht0 : 0 ≤ toD N y b := by
        rcases Int.lt_or_le (toD N y b) 0 with q | q
        · rw [ends_neg q] at he; cases he
        · exact q
      have hmv := (hidM_mem h (acts lb part lb.length)).2 ⟨hyl, b, hb, rfl, rfl, ht0⟩
      have htk : toD N y b < (k : Int) := by
        have := hok.get y _ hmv
        exact this.2.2.2
      obtain ⟨t, ht⟩ := Int.eq_ofNat_of_zero_le ht0
      have htl : t < (hidM (acts lb part lb.length) N).length := by rw [hidM_len, h.len]; omega
      cases hp : hasP lb part (b : Int)
      · have e : wordOf lb part ((b : Int) :: w) = wordOf lb part w := by simp [wordOf, hp]
        rw [e]
        rw [hid_idx_no hb hp, ht] at hmv
        refine hid_takes h F hF w X _ ?_ he
        rw [ht]
        exact (cloL_mem hok).2 ⟨t, rfl, .step hy hmv htl⟩
      · have e : wordOf lb part ((b : Int) :: w) = idxA (acts lb part lb.length) (b : Int) 0 :: wordOf lb part w := by simp [wordOf, hp]
        rw [e, takS]
        refine hid_takes h F hF w _ _ ?_ he
        have hst : toD N y b ∈ stepL (hidM (acts lb part lb.length) N) (cloL (hidM (acts lb part lb.length) N) X) (idxA (acts lb part lb.length) (b : Int) 0) := (stepL_mem hok).2 ⟨y, hs, hmv⟩
        rw [ht] at hst ⊢
        exact (cloL_mem hok).2 ⟨t, rfl, .base hst htl⟩
    · have : toD N y a = -1 := toD_far h hyl ha
      rw [this, ends_neg (by decide)] at he
      cases he
theorem hid_dead {L : Nat} (h : NOk L k N) (A : List (Int × Int)) (F : List Bool) (hF : F.length = k) : ∀ (w : List Int) (X : List Int), (∀ x ∈ X, ∀ u, endsD F N x u = false) → finL F (takS (hidM A N) (cloL (hidM A N) X) w) = false := by
  have hok := hidM_ok h A
  have hstep : ∀ {s : Nat} {b t : Int}, (b, t) ∈ (hidM A N).getD s [] → (∀ u, endsD F N s u = false) → ∀ u, endsD F N t u = false := fun hm' hd u => by
    obtain ⟨h0, a, h1, h2, h3, h4⟩ := (hidM_mem h A).1 hm'
    rw [h3, ← ends_cons]
    exact hd _
  have hclo : ∀ X : List Int, (∀ x ∈ X, ∀ u, endsD F N x u = false) → ∀ x ∈ cloL (hidM A N) X, ∀ u, endsD F N x u = false := fun X hX x hx => by
    obtain ⟨y, rfl, hy⟩ := (cloL_mem hok).1 hx
    clear hx
    induction hy with
    | base hb _ => exact hX _ hb
    | step _ hm' _ ih => exact hstep hm' ih
  intro w
  induction w with
  | nil =>
    intro X hX
    rw [takS]
    cases hf : finL F (cloL (hidM A N) X)
    · rfl
    · obtain ⟨x, hx, hq⟩ := List.any_eq_true.1 hf
      have := hclo X hX x hx []
      simp only [Bool.and_eq_true, decide_eq_true_eq] at hq
      have e : endsD F N x [] = (decide (0 ≤ x) && F.getD x.toNat false) := rfl
      rw [e, hq.2, decide_eq_true hq.1.1] at this
      cases this
  | cons a w ih =>
    intro X hX
    rw [takS]
    refine ih _ fun x hx => ?_
    obtain ⟨i, h1, h2⟩ := (stepL_mem hok).1 hx
    exact hstep h2 (hclo X hX _ h1)
end
theorem ends_consX {F : List Bool} {N : List (List Int)} (s a : Int) (w : List Int) : endsD F N s (a :: w) = endsD F N (toD N s a) w := by
  unfold endsD
  rw [runD]
  split
  · rename_i h
    have : toD N s a = -1 := by unfold toD; rw [if_pos (.inl h)]
    rw [this, runD_neg (by decide)]
    rw [decide_eq_false (by omega), decide_eq_false (by omega), Bool.false_and, Bool.false_and]
  · rfl
theorem ends_negX {F : List Bool} {N : List (List Int)} {s : Int} (h : s < 0) (w : List Int) : endsD F N s w = false := by
  unfold endsD
  rw [runD_neg h, decide_eq_false (by omega), Bool.false_and]
theorem toD_atX {L k : Nat} {N : List (List Int)} (h : NOk L k N) {s a : Nat} (hs : s < k) (ha : a < L) : toD N s a = (N.getD s []).getD a 0 := by
  have hl := h.len
  have := (h.get hs).1
  unfold toD
  rw [if_neg (by rw [Int.toNat_natCast]; omega), Int.toNat_natCast, Int.toNat_natCast]
theorem toD_farX {L k : Nat} {N : List (List Int)} (h : NOk L k N) {s : Nat} (hs : s < k) {a : Int} (ha : (L : Int) ≤ a) : toD N s a = -1 := by
  have hl := h.len
  have := (h.get hs).1
  unfold toD
  rw [if_pos (by rw [Int.toNat_natCast]; omega)]
section
variable {L k : Nat} {M : Mv} {z : List Int} {Q : List (List Int)}
theorem DA.lang (h : DA L k M z Q) (F : List Bool) : ∀ (w : List Int) (i : Nat), i < Q.length → (∀ x ∈ w, 0 ≤ x) → endsD (dFin F Q) (dNx L M Q) i w = finL F (takS M (Q.getD i []) w)
  | [], i, hi, _ => by
    have e : endsD (dFin F Q) (dNx L M Q) i [] = (decide (0 ≤ (i : Int)) && (dFin F Q).getD (i : Int).toNat false) := rfl
    rw [e, decide_eq_true (by omega), Bool.true_and, Int.toNat_natCast]
    unfold dFin
    rw [getD_mapD _ _ [] hi]
    rfl
  | a :: w, i, hi, hw => by
    have h0 := hw a (by simp)
    have hw' : ∀ x ∈ w, 0 ≤ x := fun x hx => hw x (by simp [hx])
    rw [ends_consX, takS]
    by_cases ha : a < (L : Int)
    · obtain ⟨b, rfl⟩ := Int.eq_ofNat_of_zero_le h0
      have hb : b < L := by omega
      rw [toD_atX h.ok hi hb, h.cell hi hb]
      have hhas := h.has hi hb
      unfold dNum
      split
      · rename_i he
        have : stepL M (Q.getD i []) (b : Int) = [] := by simpa using he
        rw [ends_negX (by decide), this, cloL_nil M h.hM, takS_nil h.hM]
        rfl
      · rename_i he
        have hm := hhas (by simpa using he)
        have hj := List.idxOf_lt_length_of_mem hm
        rw [h.lang F w _ hj hw']
        have e : Q.getD (Q.idxOf (dTo M (Q.getD i []) (b : Int))) [] = dTo M (Q.getD i []) (b : Int) := by
          have hg := List.getElem_idxOf hj
          rw [List.getD_eq_getElem?_getD, List.getElem?_eq_getElem hj, Option.getD_some, hg]
        rw [e]
        rfl
    · rw [toD_farX h.ok hi (by omega), ends_negX (by decide), stepL_far h.hM _ (by omega), cloL_nil M h.hM, takS_nil h.hM]
      rfl
end
set_option maxHeartbeats 4000000 in
theorem c_Labels (n : Nat) (hn : n ≤ 7) : Contract Try.prog 52 [i64 n] (.sl false (tri (fix5.take (min n 5)))) [] := by
  refine contract_of_awp (rs := [2]) Try.func52 rfl Try.ntmps52 (by simp) rfl fun E => ?_
  have hmax : (if (0 : Int) > (n : Int) then (0 : Int) else (n : Int)) = (n : Int) := by split <;> omega
  have hmin : (if (5 : Int) < (n : Int) then (5 : Int) else (n : Int)) = ((min n 5 : Nat) : Int) := by omega
  have hr : [[D.v (.int .i64 0), D.v (.int .i64 1), D.v (.int .i64 0)], [D.v (.int .i64 0), D.v (.int .i64 1), D.v (.int .i64 1)], [D.v (.int .i64 0), D.v (.int .i64 2), D.v (.int .i64 0)], [D.v (.int .i64 1), D.v (.int .i64 0), D.v (.int .i64 0)], [D.v (.int .i64 2), D.v (.int .i64 1), D.v (.int .i64 0)]] = tri fix5 := rfl
  have hl5 : (tri fix5).length = 5 := rfl
  have hm5 : min n 5 ≤ 5 := Nat.min_le_right _ _
  generalize min n 5 = m at *
  (repeat (first | refine awp_seq ?_ | refine awp_block ?_ | ((first | refine awp_skip ?_ | refine awp_exit ?_ | refine awp_reg ttok ?_ | (refine awp_draw ttok ?dr_calm ?_; (case dr_calm => decide +kernel)) | refine awp_condM ?_); simp (maxSteps := 4000000) only [↓reduceIte, Nat.reduceLT, Nat.reduceEqDiff, reduceCtorEq, Nat.reduceAdd, Nat.reduceMul, Int.reduceLE, Int.reduceLT, Int.reduceToNat, Nat.reduceLeDiff, Nat.reduceSub, Int.reduceEq, Nat.reduceBEq, List.replicate, List.set, evB, tyA, hmax, hmin, hr]; (repeat (with_reducible refine And.intro ?_ ?_; exact sdX)); (with_reducible first | refine awp_id ?_ | refine id_call ?_ | refine id_and ?_ | refine id_ex ?_ | refine id_all ?_ | refine id_nat ?_ | refine id_le ?_))))
  refine awp_pure 2 (d := .own 2005 0 m) (d' := .sl false (tri (fix5.take m))) (ids := [2005]) (p := m ≤ (tri fix5).length) evX (by simp (maxSteps := 4000000) only [↓reduceIte, Nat.reduceLT, Nat.reduceEqDiff, reduceCtorEq, Nat.reduceAdd, Nat.reduceMul, Int.reduceLE, Int.reduceLT, Int.reduceToNat, Nat.reduceLeDiff, Nat.reduceSub, Int.reduceEq, Nat.reduceBEq, List.replicate, List.set, evB, tri_take]) (by omega) ?_
  exact awp_ret (ends_plain (.inr rfl) rfl (by simp (maxSteps := 4000000) only [↓reduceIte, Nat.reduceLT, Nat.reduceEqDiff, reduceCtorEq, Nat.reduceAdd, Nat.reduceMul, Int.reduceLE, Int.reduceLT, Int.reduceToNat, Nat.reduceLeDiff, Nat.reduceSub, Int.reduceEq, Nat.reduceBEq, List.replicate, List.set, evB, St.pureSlot]))
set_option maxHeartbeats 8000000 in
theorem c_awake23 : Contract Try.prog 21 [] (bo true) [] := by
  refine contract_of_awp (rs := [0]) Try.func21 rfl Try.ntmps21 (by simp) rfl fun E => ?_
  have hr : [[D.v (.int .i64 0), D.v (.int .i64 1), D.v (.int .i64 0)]] = tri [(0, 1, 0)] := rfl
  have ht1 : List.take 1 (tri [(0, 1, 0)]) = tri [(0, 1, 0)] := rfl
  have h2 := c_Acts false [(0, 1, 0)] 2 (by decide)
  have h1 := c_Acts false [(0, 1, 0)] 1 (by decide)
  have e2 : acts [(0, 1, 0)] 2 ([(0, 1, 0)] : List Lab).length = [] := rfl
  have e1 : acts [(0, 1, 0)] 1 ([(0, 1, 0)] : List Lab).length = [(2, 0)] := rfl
  rw [e2] at h2
  rw [e1] at h1
  have hw := c_Word false false [(0, 1, 0)] 0 [0, 0] (by decide) (by decide)
  have ew : wordOf [(0, 1, 0)] 0 [0, 0] = [0, 0] := by decide
  rw [ew] at hw
  have hz : [[D.v (.int .i64 0)], [D.v (.int .i64 0)]] = ints [0, 0] := rfl
  have k0 : ((((([] : List (Int × Int)).length : Nat) : Int)) == 0) = true := rfl
  have k0' : (((0 : Nat) : Int) == 0) = true := rfl
  have k1 : (((1 : Nat) : Int) == 1) = true := rfl
  have k2 : (((2 : Nat) : Int) == 2) = true := rfl
  have g0 : (duo [(2, 0)]).getD 0 [] = [i64 2, i64 0] := rfl
  have ka : ((2 : Int) == 2) = true := rfl
  have kb : ((0 : Int) == 0) = true := rfl
  have hl1 : (duo [(2, 0)]).length = 1 := rfl
  have hi2 : List.take 2 ([0, 0] : List Int) = [0, 0] := rfl
  have htl : (tri [(0, 1, 0)]).length = 1 := rfl
  (repeat (first | refine awp_seq ?_ | refine awp_block ?_ | ((first | refine awp_skip ?_ | refine awp_exit ?_ | refine awp_reg ttok ?_ | (refine awp_draw ttok ?dr_calm ?_; (case dr_calm => decide +kernel)) | refine awp_condM ?_); simp (maxSteps := 4000000) only [↓reduceIte, Nat.reduceLT, Nat.reduceEqDiff, reduceCtorEq, Nat.reduceAdd, Nat.reduceMul, Int.reduceLE, Int.reduceLT, Int.reduceToNat, Nat.reduceLeDiff, Nat.reduceSub, Int.reduceEq, Nat.reduceBEq, List.replicate, List.set, evB, tyA, hr]; (repeat (with_reducible refine And.intro ?_ ?_; exact sdX)); (with_reducible first | refine awp_id ?_ | refine id_call ?_ | refine id_and ?_ | refine id_ex ?_ | refine id_all ?_ | refine id_nat ?_ | refine id_le ?_))))
  refine callVC_mk fnok54 (by rw [ht1]; exact h2) rfl ?_
  simp (maxSteps := 4000000) only [↓reduceIte, Nat.reduceLT, Nat.reduceEqDiff, reduceCtorEq, Nat.reduceAdd, Nat.reduceMul, Int.reduceLE, Int.reduceLT, Int.reduceToNat, Nat.reduceLeDiff, Nat.reduceSub, Int.reduceEq, Nat.reduceBEq, List.replicate, List.set, evB, tyA, k0, k0', ht1, htl]
  (repeat (with_reducible refine And.intro ?_ ?_; exact sdX))
  refine callVC_mk fnok54 h1 rfl ?_
  simp (maxSteps := 4000000) only [↓reduceIte, Nat.reduceLT, Nat.reduceEqDiff, reduceCtorEq, Nat.reduceAdd, Nat.reduceMul, Int.reduceLE, Int.reduceLT, Int.reduceToNat, Nat.reduceLeDiff, Nat.reduceSub, Int.reduceEq, Nat.reduceBEq, List.replicate, List.set, evB, tyA, k1, ht1, htl]
  (repeat (with_reducible refine And.intro ?_ ?_; exact sdX))
  refine callVC_mk fnok54 h1 rfl ?_
  simp (maxSteps := 4000000) only [↓reduceIte, Nat.reduceLT, Nat.reduceEqDiff, reduceCtorEq, Nat.reduceAdd, Nat.reduceMul, Int.reduceLE, Int.reduceLT, Int.reduceToNat, Nat.reduceLeDiff, Nat.reduceSub, Int.reduceEq, Nat.reduceBEq, List.replicate, List.set, evB, tyA, g0, hl1, ka, kb, hz, ht1, hi2, htl]
  (repeat (with_reducible refine And.intro ?_ ?_; exact sdX))
  refine callVC_mk fnok22 hw rfl ?_
  simp (maxSteps := 4000000) only [↓reduceIte, Nat.reduceLT, Nat.reduceEqDiff, reduceCtorEq, Nat.reduceAdd, Nat.reduceMul, Int.reduceLE, Int.reduceLT, Int.reduceToNat, Nat.reduceLeDiff, Nat.reduceSub, Int.reduceEq, Nat.reduceBEq, List.replicate, List.set, evB, tyA, k2]
  (repeat (with_reducible refine And.intro ?_ ?_; exact sdX))
  (repeat (first | refine awp_seq ?_ | refine awp_block ?_ | ((first | refine awp_skip ?_ | refine awp_exit ?_ | refine awp_reg ttok ?_ | (refine awp_draw ttok ?dr_calm ?_; (case dr_calm => decide +kernel)) | refine awp_condM ?_); simp (maxSteps := 4000000) only [↓reduceIte, Nat.reduceLT, Nat.reduceEqDiff, reduceCtorEq, Nat.reduceAdd, Nat.reduceMul, Int.reduceLE, Int.reduceLT, Int.reduceToNat, Nat.reduceLeDiff, Nat.reduceSub, Int.reduceEq, Nat.reduceBEq, List.replicate, List.set, evB, tyA]; (repeat (with_reducible refine And.intro ?_ ?_; exact sdX)); (with_reducible first | refine awp_id ?_ | refine id_call ?_ | refine id_and ?_ | refine id_ex ?_ | refine id_all ?_ | refine id_nat ?_ | refine id_le ?_))))
  exact awp_ret (ends_plain (.inr rfl) rfl evX)
section
variable {k : Nat} {N : List (List Int)} {lb : List Lab}
theorem c_HOfNo (h : NOk lb.length k N) (hL : lb.length ≤ 1000) (hk : 1 ≤ k ∧ k ≤ 10) (st : Nat) (hst : st < k) (F : List Bool) (hF : F.length = k) (f : Bool) (part : Int) (he : leastR (acts lb part lb.length).length (hidM (acts lb part lb.length) N) F st = .tup [noDfa, i64 13]) :
    Contract Try.prog 18 [dfaD lb.length st F N, .sl f (tri lb), i64 part] (.tup [noDfa, .sl true [], i64 13]) [] := by
  refine contract_of_awpV ttok (rs := [.cell 6 31, .tmp 7, .tmp 8]) Try.func18 rfl Try.ntmps18 (by simp) rfl fun E => ?_
  have hM := c_May h st hst F hF (by omega) (by omega)
  have hN := c_HNfa h hL (by omega) st F hF f lb part hL
  have hal := acts_len lb part lb.length
  have hLe := c_Least (hidM_ok h (acts lb part lb.length)) (fun s => Nat.le_trans (hidM_rl h _ s) hL) (by omega) hk st hst F hF
  rw [he] at hLe
  have c0 : (((lb.length : Int)) != (lb.length : Int)) = false := by simp
  have c1 : ((13 : Int) != 0) = true := rfl
  (repeat (first | refine awp_seq ?_ | refine awp_block ?_ | ((first | refine awp_skip ?_ | refine awp_exit ?_ | refine awp_reg ttok ?_ | (refine awp_draw ttok ?dr_calm ?_; (case dr_calm => decide +kernel)) | refine awp_condM ?_); simp (maxSteps := 4000000) only [↓reduceIte, Nat.reduceLT, Nat.reduceEqDiff, reduceCtorEq, Nat.reduceAdd, Nat.reduceMul, Int.reduceLE, Int.reduceLT, Int.reduceToNat, Nat.reduceLeDiff, Nat.reduceSub, Int.reduceEq, Nat.reduceBEq, List.replicate, List.set, evB, tyA, dfaD, c0]; (repeat (with_reducible refine And.intro ?_ ?_; exact sdX)); (with_reducible first | refine awp_id ?_ | refine id_call ?_ | refine id_and ?_ | refine id_ex ?_ | refine id_all ?_ | refine id_nat ?_ | refine id_le ?_))))
  refine callVC_scal fnok53 hM rfl ?_
  simp (maxSteps := 4000000) only [↓reduceIte, Nat.reduceLT, Nat.reduceEqDiff, reduceCtorEq, Nat.reduceAdd, Nat.reduceMul, Int.reduceLE, Int.reduceLT, Int.reduceToNat, Nat.reduceLeDiff, Nat.reduceSub, Int.reduceEq, Nat.reduceBEq, List.replicate, List.set, evB, tyA, dfaD, c0, tri_len]
  (repeat (with_reducible refine And.intro ?_ ?_; exact sdX))
  (repeat (first | refine awp_seq ?_ | refine awp_block ?_ | ((first | refine awp_skip ?_ | refine awp_exit ?_ | refine awp_reg ttok ?_ | (refine awp_draw ttok ?dr_calm ?_; (case dr_calm => decide +kernel)) | refine awp_condM ?_); simp (maxSteps := 4000000) only [↓reduceIte, Nat.reduceLT, Nat.reduceEqDiff, reduceCtorEq, Nat.reduceAdd, Nat.reduceMul, Int.reduceLE, Int.reduceLT, Int.reduceToNat, Nat.reduceLeDiff, Nat.reduceSub, Int.reduceEq, Nat.reduceBEq, List.replicate, List.set, evB, tyA, c0, tri_len]; (repeat (with_reducible refine And.intro ?_ ?_; exact sdX)); (with_reducible first | refine awp_id ?_ | refine id_call ?_ | refine id_and ?_ | refine id_ex ?_ | refine id_all ?_ | refine id_nat ?_ | refine id_le ?_))))
  refine callVC_mk fnok19 hN rfl ?_
  simp (maxSteps := 4000000) only [↓reduceIte, Nat.reduceLT, Nat.reduceEqDiff, reduceCtorEq, Nat.reduceAdd, Nat.reduceMul, Int.reduceLE, Int.reduceLT, Int.reduceToNat, Nat.reduceLeDiff, Nat.reduceSub, Int.reduceEq, Nat.reduceBEq, List.replicate, List.set, evB, tyA, nfaD]
  (repeat (with_reducible refine And.intro ?_ ?_; exact sdX))
  refine callVC_mk fnok11 hLe rfl ?_
  unfold noDfa
  simp (maxSteps := 4000000) only [↓reduceIte, Nat.reduceLT, Nat.reduceEqDiff, reduceCtorEq, Nat.reduceAdd, Nat.reduceMul, Int.reduceLE, Int.reduceLT, Int.reduceToNat, Nat.reduceLeDiff, Nat.reduceSub, Int.reduceEq, Nat.reduceBEq, List.replicate, List.set, evB, tyA, c1]
  (repeat (with_reducible refine And.intro ?_ ?_; exact sdX))
  (repeat (first | refine awp_seq ?_ | refine awp_block ?_ | ((first | refine awp_skip ?_ | refine awp_exit ?_ | refine awp_reg ttok ?_ | (refine awp_draw ttok ?dr_calm ?_; (case dr_calm => decide +kernel)) | refine awp_condM ?_); simp (maxSteps := 4000000) only [↓reduceIte, Nat.reduceLT, Nat.reduceEqDiff, reduceCtorEq, Nat.reduceAdd, Nat.reduceMul, Int.reduceLE, Int.reduceLT, Int.reduceToNat, Nat.reduceLeDiff, Nat.reduceSub, Int.reduceEq, Nat.reduceBEq, List.replicate, List.set, evB, tyA, c1]; (repeat (with_reducible refine And.intro ?_ ?_; exact sdX)); (with_reducible first | refine awp_id ?_ | refine id_call ?_ | refine id_and ?_ | refine id_ex ?_ | refine id_all ?_ | refine id_nat ?_ | refine id_le ?_))))
  exact awp_ret (endsV [] (.inr rfl) (by simp (maxSteps := 4000000) only [↓reduceIte, Nat.reduceLT, Nat.reduceEqDiff, reduceCtorEq, Nat.reduceAdd, Nat.reduceMul, Int.reduceLE, Int.reduceLT, Int.reduceToNat, Nat.reduceLeDiff, Nat.reduceSub, Int.reduceEq, Nat.reduceBEq, List.replicate, List.set, evB, tyA]; rfl) trivial evX)
theorem c_HOfYes (h : NOk lb.length k N) (hL : lb.length ≤ 1000) (hk : 1 ≤ k ∧ k ≤ 10) (st : Nat) (hst : st < k) (F : List Bool) (hF : F.length = k) (f : Bool) (part : Int) {H : List Bool} {Y : List (List Int)} (he : leastR (acts lb part lb.length).length (hidM (acts lb part lb.length) N) F st = .tup [dfaD (acts lb part lb.length).length 0 H Y, i64 0]) :
    Contract Try.prog 18 [dfaD lb.length st F N, .sl f (tri lb), i64 part] (.tup [dfaD (acts lb part lb.length).length 0 H Y, .sl false (duo (acts lb part lb.length)), i64 0]) [] := by
  refine contract_of_awpV ttok (rs := [.cell 6 31, .tmp 7, .tmp 8]) Try.func18 rfl Try.ntmps18 (by simp) rfl fun E => ?_
  have hM := c_May h st hst F hF (by omega) (by omega)
  have hN := c_HNfa h hL (by omega) st F hF f lb part hL
  have hal := acts_len lb part lb.length
  have hLe := c_Least (hidM_ok h (acts lb part lb.length)) (fun s => Nat.le_trans (hidM_rl h _ s) hL) (by omega) hk st hst F hF
  have hAc := c_Acts f lb part (by omega)
  rw [he] at hLe
  clear he
  have c0 : (((lb.length : Int)) != (lb.length : Int)) = false := by simp
  have c1 : ((0 : Int) != 0) = false := rfl
  have hat : List.take (acts lb part lb.length).length (acts lb part lb.length) = acts lb part lb.length := List.take_length
  generalize acts lb part lb.length = A at *
  (repeat (first | refine awp_seq ?_ | refine awp_block ?_ | ((first | refine awp_skip ?_ | refine awp_exit ?_ | refine awp_reg ttok ?_ | (refine awp_draw ttok ?dr_calm ?_; (case dr_calm => decide +kernel)) | refine awp_condM ?_); simp (maxSteps := 4000000) only [↓reduceIte, Nat.reduceLT, Nat.reduceEqDiff, reduceCtorEq, Nat.reduceAdd, Nat.reduceMul, Int.reduceLE, Int.reduceLT, Int.reduceToNat, Nat.reduceLeDiff, Nat.reduceSub, Int.reduceEq, Nat.reduceBEq, List.replicate, List.set, evB, tyA, dfaD, c0]; (repeat (with_reducible refine And.intro ?_ ?_; exact sdX)); (with_reducible first | refine awp_id ?_ | refine id_call ?_ | refine id_and ?_ | refine id_ex ?_ | refine id_all ?_ | refine id_nat ?_ | refine id_le ?_))))
  refine callVC_scal fnok53 hM rfl ?_
  simp (maxSteps := 4000000) only [↓reduceIte, Nat.reduceLT, Nat.reduceEqDiff, reduceCtorEq, Nat.reduceAdd, Nat.reduceMul, Int.reduceLE, Int.reduceLT, Int.reduceToNat, Nat.reduceLeDiff, Nat.reduceSub, Int.reduceEq, Nat.reduceBEq, List.replicate, List.set, evB, tyA, dfaD, c0, tri_len]
  (repeat (with_reducible refine And.intro ?_ ?_; exact sdX))
  (repeat (first | refine awp_seq ?_ | refine awp_block ?_ | ((first | refine awp_skip ?_ | refine awp_exit ?_ | refine awp_reg ttok ?_ | (refine awp_draw ttok ?dr_calm ?_; (case dr_calm => decide +kernel)) | refine awp_condM ?_); simp (maxSteps := 4000000) only [↓reduceIte, Nat.reduceLT, Nat.reduceEqDiff, reduceCtorEq, Nat.reduceAdd, Nat.reduceMul, Int.reduceLE, Int.reduceLT, Int.reduceToNat, Nat.reduceLeDiff, Nat.reduceSub, Int.reduceEq, Nat.reduceBEq, List.replicate, List.set, evB, tyA, c0, tri_len]; (repeat (with_reducible refine And.intro ?_ ?_; exact sdX)); (with_reducible first | refine awp_id ?_ | refine id_call ?_ | refine id_and ?_ | refine id_ex ?_ | refine id_all ?_ | refine id_nat ?_ | refine id_le ?_))))
  refine callVC_mk fnok19 hN rfl ?_
  simp (maxSteps := 4000000) only [↓reduceIte, Nat.reduceLT, Nat.reduceEqDiff, reduceCtorEq, Nat.reduceAdd, Nat.reduceMul, Int.reduceLE, Int.reduceLT, Int.reduceToNat, Nat.reduceLeDiff, Nat.reduceSub, Int.reduceEq, Nat.reduceBEq, List.replicate, List.set, evB, tyA, nfaD]
  (repeat (with_reducible refine And.intro ?_ ?_; exact sdX))
  refine callVC_mk fnok11 hLe rfl ?_
  simp (maxSteps := 4000000) only [↓reduceIte, Nat.reduceLT, Nat.reduceEqDiff, reduceCtorEq, Nat.reduceAdd, Nat.reduceMul, Int.reduceLE, Int.reduceLT, Int.reduceToNat, Nat.reduceLeDiff, Nat.reduceSub, Int.reduceEq, Nat.reduceBEq, List.replicate, List.set, evB, tyA, c1, dfaD]
  (repeat (with_reducible refine And.intro ?_ ?_; exact sdX))
  (repeat (first | refine awp_seq ?_ | refine awp_block ?_ | ((first | refine awp_skip ?_ | refine awp_exit ?_ | refine awp_reg ttok ?_ | (refine awp_draw ttok ?dr_calm ?_; (case dr_calm => decide +kernel)) | refine awp_condM ?_); simp (maxSteps := 4000000) only [↓reduceIte, Nat.reduceLT, Nat.reduceEqDiff, reduceCtorEq, Nat.reduceAdd, Nat.reduceMul, Int.reduceLE, Int.reduceLT, Int.reduceToNat, Nat.reduceLeDiff, Nat.reduceSub, Int.reduceEq, Nat.reduceBEq, List.replicate, List.set, evB, tyA, c1]; (repeat (with_reducible refine And.intro ?_ ?_; exact sdX)); (with_reducible first | refine awp_id ?_ | refine id_call ?_ | refine id_and ?_ | refine id_ex ?_ | refine id_all ?_ | refine id_nat ?_ | refine id_le ?_))))
  refine awp_drawG ttok ((0, none) :: (1, none) :: (2, none) :: (3, some [0]) :: (4, some []) :: (5, none) :: (6, none) :: []) (0 :: 1 :: 2 :: 3 :: 4 :: 5 :: 6 :: []) (0 :: 1 :: 2 :: 3 :: 4 :: 5 :: 6 :: []) (by decide +kernel) fun O hO => ?_; simp only [OpsAre, Nat.reduceAdd, and_true, List.toList_toArray, List.append_eq, List.cons_append, List.nil_append] at hO; simp (maxSteps := 4000000) only [↓reduceIte, Nat.reduceLT, Nat.reduceEqDiff, reduceCtorEq, Nat.reduceAdd, Nat.reduceMul, Int.reduceLE, Int.reduceLT, Int.reduceToNat, Nat.reduceLeDiff, Nat.reduceSub, Int.reduceEq, Nat.reduceBEq, List.replicate, List.set, evB, tyA, hO, ]; (repeat (with_reducible refine And.intro ?_ ?_; exact sdX))
  refine callVC_mk fnok54 hAc rfl ?_
  simp (maxSteps := 4000000) only [↓reduceIte, Nat.reduceLT, Nat.reduceEqDiff, reduceCtorEq, Nat.reduceAdd, Nat.reduceMul, Int.reduceLE, Int.reduceLT, Int.reduceToNat, Nat.reduceLeDiff, Nat.reduceSub, Int.reduceEq, Nat.reduceBEq, List.replicate, List.set, evB, tyA, hO]
  (repeat (with_reducible refine And.intro ?_ ?_; exact sdX))
  (repeat (first | refine awp_seq ?_ | refine awp_block ?_ | ((first | refine awp_skip ?_ | refine awp_exit ?_ | refine awp_reg ttok ?_ | (refine awp_draw ttok ?dr_calm ?_; (case dr_calm => decide +kernel)) | refine awp_condM ?_); simp (maxSteps := 4000000) only [↓reduceIte, Nat.reduceLT, Nat.reduceEqDiff, reduceCtorEq, Nat.reduceAdd, Nat.reduceMul, Int.reduceLE, Int.reduceLT, Int.reduceToNat, Nat.reduceLeDiff, Nat.reduceSub, Int.reduceEq, Nat.reduceBEq, List.replicate, List.set, evB, tyA]; (repeat (with_reducible refine And.intro ?_ ?_; exact sdX)); (with_reducible first | refine awp_id ?_ | refine id_call ?_ | refine id_and ?_ | refine id_ex ?_ | refine id_all ?_ | refine id_nat ?_ | refine id_le ?_))))
  refine awp_pure 7 (d := .own 107003 0 A.length) (d' := .sl false (duo A)) (ids := [107003]) (p := A.length ≤ (duo A).length) evX (by simp (maxSteps := 4000000) only [↓reduceIte, Nat.reduceLT, Nat.reduceEqDiff, reduceCtorEq, Nat.reduceAdd, Nat.reduceMul, Int.reduceLE, Int.reduceLT, Int.reduceToNat, Nat.reduceLeDiff, Nat.reduceSub, Int.reduceEq, Nat.reduceBEq, List.replicate, List.set, evB, duo_take, hat]) (by rw [duo_len]; exact Nat.le_refl _) ?_
  exact awp_ret (endsV [] (.inr rfl) (by simp (maxSteps := 4000000) only [↓reduceIte, Nat.reduceLT, Nat.reduceEqDiff, reduceCtorEq, Nat.reduceAdd, Nat.reduceMul, Int.reduceLE, Int.reduceLT, Int.reduceToNat, Nat.reduceLeDiff, Nat.reduceSub, Int.reduceEq, Nat.reduceBEq, List.replicate, List.set, evB, tyA]; rfl) trivial evX)
theorem c_HOfBad {L : Nat} (h : NOk L k N) (hL : L ≤ 1000) (hk : 1 ≤ k ∧ k ≤ 2000) (st : Nat) (hst : st < k) (F : List Bool) (hF : F.length = k) (f : Bool) (part : Int) (hne : lb.length ≠ L) (hlb : lb.length ≤ 1000) :
    Contract Try.prog 18 [dfaD L st F N, .sl f (tri lb), i64 part] (.tup [noDfa, .sl true [], i64 1]) [] := by
  refine contract_of_awpV ttok (rs := [.cell 6 31, .tmp 7, .tmp 8]) Try.func18 rfl Try.ntmps18 (by simp) rfl fun E => ?_
  have hM := c_May h st hst F hF (by omega) (by omega)
  have c0 : (((L : Nat) : Int) != (lb.length : Int)) = true := by simp; omega
  (repeat (first | refine awp_seq ?_ | refine awp_block ?_ | ((first | refine awp_skip ?_ | refine awp_exit ?_ | refine awp_reg ttok ?_ | (refine awp_draw ttok ?dr_calm ?_; (case dr_calm => decide +kernel)) | refine awp_condM ?_); simp (maxSteps := 4000000) only [↓reduceIte, Nat.reduceLT, Nat.reduceEqDiff, reduceCtorEq, Nat.reduceAdd, Nat.reduceMul, Int.reduceLE, Int.reduceLT, Int.reduceToNat, Nat.reduceLeDiff, Nat.reduceSub, Int.reduceEq, Nat.reduceBEq, List.replicate, List.set, evB, tyA, dfaD, c0]; (repeat (with_reducible refine And.intro ?_ ?_; exact sdX)); (with_reducible first | refine awp_id ?_ | refine id_call ?_ | refine id_and ?_ | refine id_ex ?_ | refine id_all ?_ | refine id_nat ?_ | refine id_le ?_))))
  refine callVC_scal fnok53 hM rfl ?_
  simp (maxSteps := 4000000) only [↓reduceIte, Nat.reduceLT, Nat.reduceEqDiff, reduceCtorEq, Nat.reduceAdd, Nat.reduceMul, Int.reduceLE, Int.reduceLT, Int.reduceToNat, Nat.reduceLeDiff, Nat.reduceSub, Int.reduceEq, Nat.reduceBEq, List.replicate, List.set, evB, tyA, dfaD, c0, tri_len]
  (repeat (with_reducible refine And.intro ?_ ?_; exact sdX))
  (repeat (first | refine awp_seq ?_ | refine awp_block ?_ | ((first | refine awp_skip ?_ | refine awp_exit ?_ | refine awp_reg ttok ?_ | (refine awp_draw ttok ?dr_calm ?_; (case dr_calm => decide +kernel)) | refine awp_condM ?_); simp (maxSteps := 4000000) only [↓reduceIte, Nat.reduceLT, Nat.reduceEqDiff, reduceCtorEq, Nat.reduceAdd, Nat.reduceMul, Int.reduceLE, Int.reduceLT, Int.reduceToNat, Nat.reduceLeDiff, Nat.reduceSub, Int.reduceEq, Nat.reduceBEq, List.replicate, List.set, evB, tyA, c0, tri_len]; (repeat (with_reducible refine And.intro ?_ ?_; exact sdX)); (with_reducible first | refine awp_id ?_ | refine id_call ?_ | refine id_and ?_ | refine id_ex ?_ | refine id_all ?_ | refine id_nat ?_ | refine id_le ?_))))
  exact awp_ret (endsV [] (.inr rfl) (by simp (maxSteps := 4000000) only [↓reduceIte, Nat.reduceLT, Nat.reduceEqDiff, reduceCtorEq, Nat.reduceAdd, Nat.reduceMul, Int.reduceLE, Int.reduceLT, Int.reduceToNat, Nat.reduceLeDiff, Nat.reduceSub, Int.reduceEq, Nat.reduceBEq, List.replicate, List.set, evB, tyA, noDfa]; rfl) trivial evX)
theorem ends_negw {F : List Bool} : ∀ (w : List Int) (s : Int) {x : Int}, x ∈ w → x < 0 → endsD F N s w = false
  | a :: w, s, x, hx, h0 => by
    rw [ends_cons]
    rcases List.mem_cons.1 hx with rfl | hx
    · rw [toD_bad1 N s x (.inr (.inr h0)), ends_neg (by decide)]
    · exact ends_negw w _ hx h0
theorem hide_says (h : NOk lb.length k N) (hL : lb.length ≤ 1000) (hk : 1 ≤ k ∧ k ≤ 10) (st : Nat) (hst : st < k) (F : List Bool) (hF : F.length = k) (part : Int) :
    ((liveL F N).getD st false = true ∧ ∃ (j : Nat) (H : List Bool) (Y : List (List Int)), 1 ≤ j ∧ j ≤ 1024 ∧ NOk (acts lb part lb.length).length j Y ∧ H.length = j ∧
      (∀ f, Contract Try.prog 18 [dfaD lb.length st F N, .sl f (tri lb), i64 part] (.tup [dfaD (acts lb part lb.length).length 0 H Y, .sl false (duo (acts lb part lb.length)), i64 0]) []) ∧
      (∀ w, (∀ x ∈ w, 0 ≤ x) → endsD H Y ((0 : Nat) : Int) w = takB (hidM (acts lb part lb.length) N) F st w) ∧
      (∀ w, endsD F N st w = true → endsD H Y ((0 : Nat) : Int) (wordOf lb part w) = true) ∧
      leastR (acts lb part lb.length).length (hidM (acts lb part lb.length) N) F st = .tup [dfaD (acts lb part lb.length).length 0 H Y, i64 0]) ∨
    ((liveL F N).getD st false = false ∧ ∀ f, Contract Try.prog 18 [dfaD lb.length st F N, .sl f (tri lb), i64 part] (.tup [noDfa, .sl true [], i64 13]) []) := by
  have hok := hidM_ok h (acts lb part lb.length)
  have hA := DA.mk (L := (acts lb part lb.length).length) (z := cloL (hidM (acts lb part lb.length) N) [(st : Int)]) (Q := dAll (acts lb part lb.length).length (hidM (acts lb part lb.length) N) (cloL (hidM (acts lb part lb.length) N) [(st : Int)])) hok ⟨_, rfl⟩ rfl
  have h2k : 2 ^ k ≤ 1024 := Nat.pow_le_pow_right (show 0 < 2 by decide) hk.2
  have hlQ := hA.lenQ
  have hlang := fun w (hw : ∀ x ∈ w, 0 ≤ x) => hA.lang F w 0 hA.q0.1 hw
  rw [hA.q0.2] at hlang
  have hs := ofR_says hA.ok hA.q0.1 (dFin F (dAll (acts lb part lb.length).length (hidM (acts lb part lb.length) N) (cloL (hidM (acts lb part lb.length) N) [(st : Int)]))) (by simp [dFin]) (by omega)
  have hin : (st : Int) ∈ cloL (hidM (acts lb part lb.length) N) [(st : Int)] := (cloL_mem hok).2 ⟨st, rfl, .base (by simp) (by rw [hidM_len, h.len]; exact hst)⟩
  rcases hs with ⟨h1, j, H, Y, j1, j2, hY, hH, he, hw⟩ | ⟨h1, he, hw⟩
  · left
    have hlive : (liveL F N).getD st false = true := by
      cases hq : (liveL F N).getD st false
      · obtain ⟨w, hw2⟩ := (live_word hA.ok (by simp [dFin]) hA.q0.1).1 h1
        have hd := dead_word h hF hst hq
        have hnn : ∀ x ∈ w, 0 ≤ x := fun x hx => by
          rcases Int.lt_or_le x 0 with q | q
          · rw [ends_negw w _ hx q] at hw2; cases hw2
          · exact q
        rw [hlang w hnn, hid_dead h _ F hF w _ (by simpa using hd)] at hw2
        cases hw2
      · rfl
    refine ⟨hlive, j, H, Y, j1, by omega, hY, hH, fun f => c_HOfYes h hL hk st hst F hF f part he, fun w hnn => ?_, fun w hw2 => ?_, he⟩
    · rw [hw, hlang w hnn]; rfl
    · rw [hw, hlang _ (wordOf_nn w)]
      exact hid_takes h F hF w _ _ hin hw2
  · right
    refine ⟨?_, fun f => c_HOfNo h hL hk st hst F hF f part he⟩
    cases hq : (liveL F N).getD st false
    · rfl
    · obtain ⟨w, hw2⟩ := (live_word h hF hst).1 hq
      have := hw (wordOf lb part w)
      rw [hlang _ (wordOf_nn w), hid_takes h F hF w _ _ hin hw2] at this
      cases this
end
end Go.Proofs.Ytcpipfodedfpkaa
