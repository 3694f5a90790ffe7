import Derived.Test.YtcpipfodedfpkaaPp
import Derived.Test.YtcpipfodedfpkaaSl
import Derived.Test.YtcpipfodedfpkaaDt
set_option linter.unusedSimpArgs false
set_option linter.unusedVariables false
namespace Go.Proofs.Ytcpipfodedfpkaa
open Go.Ab
theorem ext_getD {A B : List (Int × Int)} (hl : A.length = B.length) (h : ∀ j, j < A.length → A.getD j (0, 0) = B.getD j (0, 0)) : A = B := by
  apply List.ext_getElem hl
  intro j h1 h2
  have := h j h1
  simpa [List.getD, List.getElem?_eq_getElem h1, List.getElem?_eq_getElem h2] using this
set_option maxHeartbeats 16000000 in
theorem c_EqA (f g : Bool) (A B : List (Int × Int)) (hA : A.length ≤ 100000) (hB : B.length ≤ 100000) : Contract Try.prog 63 [.sl f (duo A), .sl g (duo B)] (bo (A == B)) [] := by
  refine contract_of_awp (rs := [4]) Try.func63 rfl Try.ntmps63 (by simp) rfl fun E => ?_
  by_cases hl : A.length = B.length
  · have k0 : ((A.length : Int) != (B.length : Int)) = false := by simp [hl]
    (repeat (first | refine awp_seq ?_ | refine awp_block ?_ | ((first | refine awp_skip ?_ | refine awp_exit ?_ | refine awp_reg ttok ?_ | (refine awp_draw ttok ?dr_calm ?_; (case dr_calm => decide +kernel)) | refine awp_condM ?_); simp (maxSteps := 4000000) only [↓reduceIte, Nat.reduceLT, Nat.reduceEqDiff, reduceCtorEq, Nat.reduceAdd, Nat.reduceMul, Int.reduceLE, Int.reduceLT, Int.reduceToNat, Nat.reduceLeDiff, Nat.reduceSub, Int.reduceEq, Nat.reduceBEq, List.replicate, List.set, evB, tyA, duo_len, k0]; (repeat (with_reducible refine And.intro ?_ ?_; exact sdX)); (with_reducible first | refine awp_id ?_ | refine id_call ?_ | refine id_and ?_ | refine id_ex ?_ | refine id_all ?_ | refine id_nat ?_ | refine id_le ?_))))
    refine awp_loop (X := Nat) (fun i => mkS 26 [(0, .sl f (duo A)), (1, .sl g (duo B)), (12, i64 A.length), (13, i64 i)] []) (fun i => i ≤ A.length ∧ ∀ j, j < i → A.getD j (0, 0) = B.getD j (0, 0)) (fun i => A.length - i) 0 ⟨Nat.zero_le _, fun j hj => by omega⟩ (mkS_le rfl ?_ trivial) ?_
    · simp (maxSteps := 4000000) only [↓reduceIte, Nat.reduceLT, Nat.reduceEqDiff, reduceCtorEq, Nat.reduceAdd, Nat.reduceMul, Int.reduceLE, Int.reduceLT, Int.reduceToNat, Nat.reduceLeDiff, Nat.reduceSub, Int.reduceEq, Nat.reduceBEq, List.replicate, List.set, evB, duo_len]
      try rfl
    · rintro i ⟨hi, hn⟩
      by_cases hlt : i < A.length
      · have d1 : decide ((i : Int) < (A.length : Int)) = true := by simpa using hlt
        have hwi : IntKind.i64.wrap ((i : Int) + 1) = ((i + 1 : Nat) : Int) := i64_in (by omega) (by omega)
        have gi := duo_get hlt
        have gj := duo_get (l := B) (i := i) (by omega)
        by_cases he : A.getD i (0, 0) = B.getD i (0, 0)
        · have hnn : ∀ j, j < i + 1 → A.getD j (0, 0) = B.getD j (0, 0) := fun j hj => by
            rcases Nat.lt_or_ge j i with q | q
            · exact hn j q
            · have : j = i := by omega
              rw [this]; exact he
          rw [he] at gi
          generalize B.getD i (0, 0) = y at *
          have k1 : (y.1 == y.1) = true := by simp
          have k2 : (y.2 == y.2) = true := by simp
          (repeat (first | refine awp_seq ?_ | refine awp_block ?_ | ((first | refine awp_skip ?_ | refine awp_exit ?_ | refine awp_reg ttok ?_ | (refine awp_draw ttok ?dr_calm ?_; (case dr_calm => decide +kernel)) | refine awp_condM ?_); simp (maxSteps := 4000000) only [↓reduceIte, Nat.reduceLT, Nat.reduceEqDiff, reduceCtorEq, Nat.reduceAdd, Nat.reduceMul, Int.reduceLE, Int.reduceLT, Int.reduceToNat, Nat.reduceLeDiff, Nat.reduceSub, Int.reduceEq, Nat.reduceBEq, List.replicate, List.set, evB, tyA, d1, gi, gj, duo_len, k1, k2, hwi]; (repeat (with_reducible refine And.intro ?_ ?_; exact sdX)); (with_reducible first | refine awp_id ?_ | refine id_call ?_ | refine id_and ?_ | refine id_ex ?_ | refine id_all ?_ | refine id_nat ?_ | refine id_le ?_))))
          refine ⟨i + 1, ⟨by omega, hnn⟩, by omega, mkS_le rfl ?_ trivial⟩
          simp (maxSteps := 4000000) only [↓reduceIte, Nat.reduceLT, Nat.reduceEqDiff, reduceCtorEq, Nat.reduceAdd, Nat.reduceMul, Int.reduceLE, Int.reduceLT, Int.reduceToNat, Nat.reduceLeDiff, Nat.reduceSub, Int.reduceEq, Nat.reduceBEq, List.replicate, List.set, evB]
        · have hne : (A == B) = false := by
            rw [beq_eq_false_iff_ne]; rintro rfl; exact he rfl
          generalize A.getD i (0, 0) = x at *
          generalize B.getD i (0, 0) = y at *
          by_cases h1 : x.1 = y.1
          · have k1 : (x.1 == y.1) = true := by simpa using h1
            have k2 : (x.2 == y.2) = false := by
              rw [beq_eq_false_iff_ne]; intro q; exact he (by cases x; cases y; simp_all)
            (repeat (first | refine awp_seq ?_ | refine awp_block ?_ | ((first | refine awp_skip ?_ | refine awp_exit ?_ | refine awp_reg ttok ?_ | (refine awp_draw ttok ?dr_calm ?_; (case dr_calm => decide +kernel)) | refine awp_condM ?_); simp (maxSteps := 4000000) only [↓reduceIte, Nat.reduceLT, Nat.reduceEqDiff, reduceCtorEq, Nat.reduceAdd, Nat.reduceMul, Int.reduceLE, Int.reduceLT, Int.reduceToNat, Nat.reduceLeDiff, Nat.reduceSub, Int.reduceEq, Nat.reduceBEq, List.replicate, List.set, evB, tyA, d1, gi, gj, duo_len, k1, k2, hwi]; (repeat (with_reducible refine And.intro ?_ ?_; exact sdX)); (with_reducible first | refine awp_id ?_ | refine id_call ?_ | refine id_and ?_ | refine id_ex ?_ | refine id_all ?_ | refine id_nat ?_ | refine id_le ?_))))
            exact awp_ret (ends_plain (.inr rfl) rfl (by simp (maxSteps := 4000000) only [↓reduceIte, Nat.reduceLT, Nat.reduceEqDiff, reduceCtorEq, Nat.reduceAdd, Nat.reduceMul, Int.reduceLE, Int.reduceLT, Int.reduceToNat, Nat.reduceLeDiff, Nat.reduceSub, Int.reduceEq, Nat.reduceBEq, List.replicate, List.set, evB, hne]))
          · have k1 : (x.1 == y.1) = false := by simpa using h1
            (repeat (first | refine awp_seq ?_ | refine awp_block ?_ | ((first | refine awp_skip ?_ | refine awp_exit ?_ | refine awp_reg ttok ?_ | (refine awp_draw ttok ?dr_calm ?_; (case dr_calm => decide +kernel)) | refine awp_condM ?_); simp (maxSteps := 4000000) only [↓reduceIte, Nat.reduceLT, Nat.reduceEqDiff, reduceCtorEq, Nat.reduceAdd, Nat.reduceMul, Int.reduceLE, Int.reduceLT, Int.reduceToNat, Nat.reduceLeDiff, Nat.reduceSub, Int.reduceEq, Nat.reduceBEq, List.replicate, List.set, evB, tyA, d1, gi, gj, duo_len, k1, hwi]; (repeat (with_reducible refine And.intro ?_ ?_; exact sdX)); (with_reducible first | refine awp_id ?_ | refine id_call ?_ | refine id_and ?_ | refine id_ex ?_ | refine id_all ?_ | refine id_nat ?_ | refine id_le ?_))))
            exact awp_ret (ends_plain (.inr rfl) rfl (by simp (maxSteps := 4000000) only [↓reduceIte, Nat.reduceLT, Nat.reduceEqDiff, reduceCtorEq, Nat.reduceAdd, Nat.reduceMul, Int.reduceLE, Int.reduceLT, Int.reduceToNat, Nat.reduceLeDiff, Nat.reduceSub, Int.reduceEq, Nat.reduceBEq, List.replicate, List.set, evB, hne]))
      · have d1 : decide ((i : Int) < (A.length : Int)) = false := by simpa using hlt
        have heq : (A == B) = true := by
          rw [beq_iff_eq]; exact ext_getD hl fun j hj => hn j (by omega)
        (repeat (first | refine awp_seq ?_ | refine awp_block ?_ | ((first | refine awp_skip ?_ | refine awp_exit ?_ | refine awp_reg ttok ?_ | (refine awp_draw ttok ?dr_calm ?_; (case dr_calm => decide +kernel)) | refine awp_condM ?_); simp (maxSteps := 4000000) only [↓reduceIte, Nat.reduceLT, Nat.reduceEqDiff, reduceCtorEq, Nat.reduceAdd, Nat.reduceMul, Int.reduceLE, Int.reduceLT, Int.reduceToNat, Nat.reduceLeDiff, Nat.reduceSub, Int.reduceEq, Nat.reduceBEq, List.replicate, List.set, evB, tyA, d1]; (repeat (with_reducible refine And.intro ?_ ?_; exact sdX)); (with_reducible first | refine awp_id ?_ | refine id_call ?_ | refine id_and ?_ | refine id_ex ?_ | refine id_all ?_ | refine id_nat ?_ | refine id_le ?_))))
        exact awp_ret (ends_plain (.inr rfl) rfl (by simp (maxSteps := 4000000) only [↓reduceIte, Nat.reduceLT, Nat.reduceEqDiff, reduceCtorEq, Nat.reduceAdd, Nat.reduceMul, Int.reduceLE, Int.reduceLT, Int.reduceToNat, Nat.reduceLeDiff, Nat.reduceSub, Int.reduceEq, Nat.reduceBEq, List.replicate, List.set, evB, heq]))
  · have k0 : ((A.length : Int) != (B.length : Int)) = true := by simp; omega
    have hne : (A == B) = false := by
      rw [beq_eq_false_iff_ne]; rintro rfl; exact hl rfl
    (repeat (first | refine awp_seq ?_ | refine awp_block ?_ | ((first | refine awp_skip ?_ | refine awp_exit ?_ | refine awp_reg ttok ?_ | (refine awp_draw ttok ?dr_calm ?_; (case dr_calm => decide +kernel)) | refine awp_condM ?_); simp (maxSteps := 4000000) only [↓reduceIte, Nat.reduceLT, Nat.reduceEqDiff, reduceCtorEq, Nat.reduceAdd, Nat.reduceMul, Int.reduceLE, Int.reduceLT, Int.reduceToNat, Nat.reduceLeDiff, Nat.reduceSub, Int.reduceEq, Nat.reduceBEq, List.replicate, List.set, evB, tyA, duo_len, k0]; (repeat (with_reducible refine And.intro ?_ ?_; exact sdX)); (with_reducible first | refine awp_id ?_ | refine id_call ?_ | refine id_and ?_ | refine id_ex ?_ | refine id_all ?_ | refine id_nat ?_ | refine id_le ?_))))
    exact awp_ret (ends_plain (.inr rfl) rfl (by simp (maxSteps := 4000000) only [↓reduceIte, Nat.reduceLT, Nat.reduceEqDiff, reduceCtorEq, Nat.reduceAdd, Nat.reduceMul, Int.reduceLE, Int.reduceLT, Int.reduceToNat, Nat.reduceLeDiff, Nat.reduceSub, Int.reduceEq, Nat.reduceBEq, List.replicate, List.set, evB, hne]))
section
variable {k : Nat} {N : List (List Int)} {lb : List Lab}
set_option maxHeartbeats 16000000 in
theorem c_PMay (hL : lb.length ≤ 1000) {st : Nat} {F : List Bool} {x : Pr} {p : Int} (hx : POk lb st F N p x) (f : Bool) :
    Contract Try.prog 31 [prD x, .sl f (tri lb)] (bo true) [] := by
  refine contract_of_awp (rs := [4]) Try.func31 rfl Try.ntmps31 (by simp) rfl fun E => ?_
  have hw := hx.wf
  have hla : x.L ≤ 1000 := by rw [hx.L]; exact hw.a
  have hM := c_May hw.ok x.st hw.s x.F hw.F (by omega) ⟨hw.n.1, by have := hw.n.2; omega⟩
  have hAc := c_Acts f lb p (by omega)
  rw [← hx.A] at hAc
  have hp := hx.p
  subst hp
  have k2 : ((x.L : Int) == (x.A.length : Int)) = true := by rw [hx.L]; simp
  have hE := c_EqA false false x.A x.A (by have := hw.a; omega) (by have := hw.a; omega)
  have kb : (x.A == x.A) = true := by simp
  rw [kb] at hE
  have hat : List.take x.A.length x.A = x.A := List.take_length
  (repeat (first | refine awp_seq ?_ | refine awp_block ?_ | ((first | refine awp_skip ?_ | refine awp_exit ?_ | refine awp_reg ttok ?_ | (refine awp_draw ttok ?dr_calm ?_; (case dr_calm => decide +kernel)) | refine awp_condM ?_); simp (maxSteps := 4000000) only [↓reduceIte, Nat.reduceLT, Nat.reduceEqDiff, reduceCtorEq, Nat.reduceAdd, Nat.reduceMul, Int.reduceLE, Int.reduceLT, Int.reduceToNat, Nat.reduceLeDiff, Nat.reduceSub, Int.reduceEq, Nat.reduceBEq, List.replicate, List.set, evB, tyA]; (repeat (with_reducible refine And.intro ?_ ?_; exact sdX)); (with_reducible first | refine awp_id ?_ | refine id_call ?_ | refine id_and ?_ | refine id_ex ?_ | refine id_all ?_ | refine id_nat ?_ | refine id_le ?_))))
  refine awp_drawG ttok ((0, none) :: (1, none) :: (2, some []) :: (3, none) :: (4, none) :: (5, none) :: (6, none) :: (7, none) :: (8, none) :: (9, none) :: (10, none) :: (11, none) :: (12, none) :: (13, none) :: (14, none) :: (15, none) :: (16, none) :: (17, none) :: (18, some [13, 14]) :: (19, some []) :: (20, none) :: (21, none) :: []) ([]) ([]) (by decide +kernel) fun O hO => ?_; simp only [OpsAre, Nat.reduceAdd, and_true, List.toList_toArray, List.append_eq, List.cons_append, List.nil_append] at hO; simp (maxSteps := 4000000) only [↓reduceIte, Nat.reduceLT, Nat.reduceEqDiff, reduceCtorEq, Nat.reduceAdd, Nat.reduceMul, Int.reduceLE, Int.reduceLT, Int.reduceToNat, Nat.reduceLeDiff, Nat.reduceSub, Int.reduceEq, Nat.reduceBEq, List.replicate, List.set, evB, tyA, hO, ]; (repeat (with_reducible refine And.intro ?_ ?_; exact sdX))
  refine callVC_scal fnok53 hM rfl ?_
  simp (maxSteps := 4000000) only [↓reduceIte, Nat.reduceLT, Nat.reduceEqDiff, reduceCtorEq, Nat.reduceAdd, Nat.reduceMul, Int.reduceLE, Int.reduceLT, Int.reduceToNat, Nat.reduceLeDiff, Nat.reduceSub, Int.reduceEq, Nat.reduceBEq, List.replicate, List.set, evB, tyA, hO, duo_len, k2]
  (repeat (with_reducible refine And.intro ?_ ?_; exact sdX))
  refine callVC_mk fnok54 hAc rfl ?_
  simp (maxSteps := 4000000) only [↓reduceIte, Nat.reduceLT, Nat.reduceEqDiff, reduceCtorEq, Nat.reduceAdd, Nat.reduceMul, Int.reduceLE, Int.reduceLT, Int.reduceToNat, Nat.reduceLeDiff, Nat.reduceSub, Int.reduceEq, Nat.reduceBEq, List.replicate, List.set, evB, tyA, hO, duo_take, hat, duo_len]
  (repeat (with_reducible refine And.intro ?_ ?_; exact sdX))
  refine callVC_scal fnok63 hE rfl ?_
  simp (maxSteps := 4000000) only [↓reduceIte, Nat.reduceLT, Nat.reduceEqDiff, reduceCtorEq, Nat.reduceAdd, Nat.reduceMul, Int.reduceLE, Int.reduceLT, Int.reduceToNat, Nat.reduceLeDiff, Nat.reduceSub, Int.reduceEq, Nat.reduceBEq, List.replicate, List.set, evB, tyA, hO]
  (repeat (with_reducible refine And.intro ?_ ?_; exact sdX))
  (repeat (first | refine awp_seq ?_ | refine awp_block ?_ | ((first | refine awp_skip ?_ | refine awp_exit ?_ | refine awp_reg ttok ?_ | (refine awp_draw ttok ?dr_calm ?_; (case dr_calm => decide +kernel)) | refine awp_condM ?_); simp (maxSteps := 4000000) only [↓reduceIte, Nat.reduceLT, Nat.reduceEqDiff, reduceCtorEq, Nat.reduceAdd, Nat.reduceMul, Int.reduceLE, Int.reduceLT, Int.reduceToNat, Nat.reduceLeDiff, Nat.reduceSub, Int.reduceEq, Nat.reduceBEq, List.replicate, List.set, evB, tyA]; (repeat (with_reducible refine And.intro ?_ ?_; exact sdX)); (with_reducible first | refine awp_id ?_ | refine id_call ?_ | refine id_and ?_ | refine id_ex ?_ | refine id_all ?_ | refine id_nat ?_ | refine id_le ?_))))
  exact awp_ret (ends_plain (.inr rfl) rfl evX)
end
def N24 : List (List Int) := [[1], [-1]]
def F24 : List Bool := [false, true]
def lb24 : List Lab := [(0, 1, 0)]
def x24 (d : Int) (p : Int) : Pr := ⟨p, [(d, 0)], 1, 0, F24, N24⟩
theorem nOk24 : NOk 1 2 N24 := ⟨rfl, by decide⟩
theorem v24a : dAll 1 (hidM [(1, 0)] N24) (cloL (hidM [(1, 0)] N24) [0]) = [[0], [1]] := by decide +kernel
theorem v24b : dAll 1 (hidM [(2, 0)] N24) (cloL (hidM [(2, 0)] N24) [0]) = [[0], [1]] := by decide +kernel
theorem v24c : dFin F24 [[0], [1]] = F24 := by decide +kernel
theorem v24d : dNx 1 (hidM [(1, 0)] N24) [[0], [1]] = N24 := by decide +kernel
theorem v24e : dNx 1 (hidM [(2, 0)] N24) [[0], [1]] = N24 := by decide +kernel
theorem v24f : 0 ≤ (clsF F24 N24).getD 0 0 := by decide +kernel
theorem v24g : oFin F24 (oAll N24 (clsF F24 N24) 0) = F24 := by decide +kernel
theorem v24h : oNx N24 (clsF F24 N24) (oAll N24 (clsF F24 N24) 0) = N24 := by decide +kernel
theorem of24 : ofR 1 0 F24 N24 = .tup [dfaD 1 0 F24 N24, i64 0] := by
  unfold ofR; rw [if_pos v24f, v24g, v24h]
theorem wf24 (d p : Int) : PWf (x24 d p) := ⟨nOk24, rfl, (show 1 ≤ N24.length ∧ N24.length ≤ 1024 by decide), (show 0 < N24.length by decide), (show 1 ≤ 1000 by decide)⟩
theorem pOk24a : POk lb24 0 F24 N24 0 (x24 1 0) := ⟨wf24 1 0, rfl, rfl, rfl, rfl, fun f => by
  refine c_HOfYes (lb := lb24) nOk24 (by decide) (by decide) 0 (by decide) F24 rfl f 0 (H := F24) (Y := N24) ?_
  have z0 : ((0 : Nat) : Int) = 0 := rfl
  show leastR 1 (hidM [(1, 0)] N24) F24 0 = _
  unfold leastR
  rw [z0, v24a, v24c, v24d, of24]; rfl⟩
theorem pOk24b : POk lb24 0 F24 N24 1 (x24 2 1) := ⟨wf24 2 1, rfl, rfl, rfl, rfl, fun f => by
  refine c_HOfYes (lb := lb24) nOk24 (by decide) (by decide) 0 (by decide) F24 rfl f 1 (H := F24) (Y := N24) ?_
  have z0 : ((0 : Nat) : Int) = 0 := rfl
  show leastR 1 (hidM [(2, 0)] N24) F24 0 = _
  unfold leastR
  rw [z0, v24b, v24c, v24e, of24]; rfl⟩
def g24 (p : Int) : Pr := if p = 0 then x24 1 0 else x24 2 1
theorem ok24 : ∀ p : Nat, p < 2 → POk lb24 0 F24 N24 (p : Int) (g24 (p : Int)) := fun p hp => by
  match p, hp with
  | 0, _ => exact pOk24a
  | 1, _ => exact pOk24b
def noPr : Pr := ⟨0, [], 0, 0, [], []⟩
theorem prs_at {l : List Pr} {i : Nat} (h : i < l.length) : (prs l).getD i [] = prC (l.getD i noPr) := by
  simp [prs, List.getD, List.getElem?_eq_getElem h]
def startsL (l : List Pr) : List Int := l.map fun x => (x.st : Int)
theorem startsL_len (l : List Pr) : (startsL l).length = l.length := by simp [startsL]
theorem startsL_snoc {l : List Pr} {i : Nat} (h : i < l.length) : startsL (l.take (i + 1)) = startsL (l.take i) ++ [((l.getD i noPr).st : Int)] := by
  rw [take_snoc h noPr]; simp [startsL]
set_option maxHeartbeats 16000000 in
theorem c_JFirst (f : Bool) (l : List Pr) (hl : l.length ≤ 1000) : Contract Try.prog 35 [.sl f (prs l)] (.own 0 0 (startsL l).length) [{ sz := 1, rows := ints (startsL l) }] := by
  refine contract_of_awp (rs := [2]) Try.func35 rfl Try.ntmps35 (by simp) rfl fun E => ?_
  (repeat (first | refine awp_seq ?_ | refine awp_block ?_ | ((first | refine awp_skip ?_ | refine awp_exit ?_ | refine awp_reg ttok ?_ | (refine awp_draw ttok ?dr_calm ?_; (case dr_calm => decide +kernel)) | refine awp_condM ?_); simp (maxSteps := 4000000) only [↓reduceIte, Nat.reduceLT, Nat.reduceEqDiff, reduceCtorEq, Nat.reduceAdd, Nat.reduceMul, Int.reduceLE, Int.reduceLT, Int.reduceToNat, Nat.reduceLeDiff, Nat.reduceSub, Int.reduceEq, Nat.reduceBEq, List.replicate, List.set, evB, tyA, prs_len]; (repeat (with_reducible refine And.intro ?_ ?_; exact sdX)); (with_reducible first | refine awp_id ?_ | refine id_call ?_ | refine id_and ?_ | refine id_ex ?_ | refine id_all ?_ | refine id_nat ?_ | refine id_le ?_))))
  refine awp_own_nil 3 9000 1 evX (by decide) ?_
  refine awp_loop (X := Nat) (fun i => mkS 20 [(3, .own 9000 0 i), (6, .sl f (prs l)), (7, i64 l.length), (8, i64 i)] [(9000, { sz := 1, rows := ints (startsL (l.take i)) })]) (fun i => i ≤ l.length) (fun i => l.length - i) 0 (Nat.zero_le _) (mkS_le rfl ?_ ?_) ?_
  · simp (maxSteps := 4000000) only [↓reduceIte, Nat.reduceLT, Nat.reduceEqDiff, reduceCtorEq, Nat.reduceAdd, Nat.reduceMul, Int.reduceLE, Int.reduceLT, Int.reduceToNat, Nat.reduceLeDiff, Nat.reduceSub, Int.reduceEq, Nat.reduceBEq, List.replicate, List.set, evB, St.toOwn, prs_len]
    try rfl
  · simp (maxSteps := 4000000) only [↓reduceIte, Nat.reduceLT, Nat.reduceEqDiff, reduceCtorEq, Nat.reduceAdd, Nat.reduceMul, Int.reduceLE, Int.reduceLT, Int.reduceToNat, Nat.reduceLeDiff, Nat.reduceSub, Int.reduceEq, Nat.reduceBEq, List.replicate, List.set, evB, St.toOwn]
    try rfl
  · intro i hi
    have hsl : (startsL (l.take i)).length = i := by rw [startsL_len, List.length_take]; omega
    by_cases hlt : i < l.length
    · have d1 : decide ((i : Int) < (l.length : Int)) = true := by simpa using hlt
      obtain ⟨i', hi'⟩ : ∃ i', i' = i + 1 := ⟨_, rfl⟩
      have hwi : IntKind.i64.wrap ((i : Int) + 1) = (i' : Int) := by rw [hi']; exact i64_in (by omega) (by omega)
      have gi := prs_at hlt
      have hs := startsL_snoc hlt
      rw [← hi'] at hs
      generalize l.getD i noPr = x at *
      have hone := ints_one (x.st : Int)
      have hti : List.take i (startsL (l.take i)) = startsL (l.take i) := List.take_of_length_le (by omega)
      (repeat (first | refine awp_seq ?_ | refine awp_block ?_ | ((first | refine awp_skip ?_ | refine awp_exit ?_ | refine awp_reg ttok ?_ | (refine awp_draw ttok ?dr_calm ?_; (case dr_calm => decide +kernel)) | refine awp_condM ?_); simp (maxSteps := 4000000) only [↓reduceIte, Nat.reduceLT, Nat.reduceEqDiff, reduceCtorEq, Nat.reduceAdd, Nat.reduceMul, Int.reduceLE, Int.reduceLT, Int.reduceToNat, Nat.reduceLeDiff, Nat.reduceSub, Int.reduceEq, Nat.reduceBEq, List.replicate, List.set, evB, tyA, d1, gi, prs_len, hone, ints_len, hsl, hti, ← hs, hwi]; (repeat (with_reducible refine And.intro ?_ ?_; exact sdX)); (with_reducible first | refine awp_id ?_ | refine id_call ?_ | refine id_and ?_ | refine id_ex ?_ | refine id_all ?_ | refine id_nat ?_ | refine id_le ?_))))
      refine ⟨i', by omega, by omega, mkS_le rfl ?_ ?_⟩
      · simp (maxSteps := 4000000) only [↓reduceIte, Nat.reduceLT, Nat.reduceEqDiff, reduceCtorEq, Nat.reduceAdd, Nat.reduceMul, Int.reduceLE, Int.reduceLT, Int.reduceToNat, Nat.reduceLeDiff, Nat.reduceSub, Int.reduceEq, Nat.reduceBEq, List.replicate, List.set, evB, hi']
      · simp (maxSteps := 4000000) only [↓reduceIte, Nat.reduceLT, Nat.reduceEqDiff, reduceCtorEq, Nat.reduceAdd, Nat.reduceMul, Int.reduceLE, Int.reduceLT, Int.reduceToNat, Nat.reduceLeDiff, Nat.reduceSub, Int.reduceEq, Nat.reduceBEq, List.replicate, List.set, evB, hs]
    · have d1 : decide ((i : Int) < (l.length : Int)) = false := by simpa using hlt
      have hli : (startsL l).length = i := by rw [startsL_len]; omega
      rw [hli]
      have hall : l.take i = l := List.take_of_length_le (by omega)
      (repeat (first | refine awp_seq ?_ | refine awp_block ?_ | ((first | refine awp_skip ?_ | refine awp_exit ?_ | refine awp_reg ttok ?_ | (refine awp_draw ttok ?dr_calm ?_; (case dr_calm => decide +kernel)) | refine awp_condM ?_); simp (maxSteps := 4000000) only [↓reduceIte, Nat.reduceLT, Nat.reduceEqDiff, reduceCtorEq, Nat.reduceAdd, Nat.reduceMul, Int.reduceLE, Int.reduceLT, Int.reduceToNat, Nat.reduceLeDiff, Nat.reduceSub, Int.reduceEq, Nat.reduceBEq, List.replicate, List.set, evB, tyA, d1]; (repeat (with_reducible refine And.intro ?_ ?_; exact sdX)); (with_reducible first | refine awp_id ?_ | refine id_call ?_ | refine id_and ?_ | refine id_ex ?_ | refine id_all ?_ | refine id_nat ?_ | refine id_le ?_))))
      rw [hall]
      exact awp_ret (ends_own (g := 9000) (.inr rfl) evX evX rfl)
def endsJ (l : List Pr) (s : List Int) (n : Nat) : Bool := (List.range n).all fun i => decide (0 ≤ s.getD i 0) && (l.getD i noPr).F.getD (s.getD i 0).toNat false
set_option maxHeartbeats 16000000 in
theorem c_JEnds (f g : Bool) (l : List Pr) (s : List Int) (hl : l.length ≤ 1000) (hs : l.length ≤ s.length) (hw : ∀ i, i < l.length → PWf (l.getD i noPr)) :
    Contract Try.prog 36 [.sl f (prs l), .sl g (ints s)] (bo (endsJ l s l.length)) [] := by
  refine contract_of_awp (rs := [4]) Try.func36 rfl Try.ntmps36 (by simp) rfl fun E => ?_
  (repeat (first | refine awp_seq ?_ | refine awp_block ?_ | ((first | refine awp_skip ?_ | refine awp_exit ?_ | refine awp_reg ttok ?_ | (refine awp_draw ttok ?dr_calm ?_; (case dr_calm => decide +kernel)) | refine awp_condM ?_); simp (maxSteps := 4000000) only [↓reduceIte, Nat.reduceLT, Nat.reduceEqDiff, reduceCtorEq, Nat.reduceAdd, Nat.reduceMul, Int.reduceLE, Int.reduceLT, Int.reduceToNat, Nat.reduceLeDiff, Nat.reduceSub, Int.reduceEq, Nat.reduceBEq, List.replicate, List.set, evB, tyA, prs_len]; (repeat (with_reducible refine And.intro ?_ ?_; exact sdX)); (with_reducible first | refine awp_id ?_ | refine id_call ?_ | refine id_and ?_ | refine id_ex ?_ | refine id_all ?_ | refine id_nat ?_ | refine id_le ?_))))
  refine awp_loop (X := Nat) (fun i => mkS 28 [(1, .sl g (ints s)), (7, .sl f (prs l)), (8, i64 l.length), (9, i64 i)] []) (fun i => i ≤ l.length ∧ endsJ l s i = true) (fun i => l.length - i) 0 ⟨Nat.zero_le _, rfl⟩ (mkS_le rfl ?_ trivial) ?_
  · simp (maxSteps := 4000000) only [↓reduceIte, Nat.reduceLT, Nat.reduceEqDiff, reduceCtorEq, Nat.reduceAdd, Nat.reduceMul, Int.reduceLE, Int.reduceLT, Int.reduceToNat, Nat.reduceLeDiff, Nat.reduceSub, Int.reduceEq, Nat.reduceBEq, List.replicate, List.set, evB, prs_len]
    try rfl
  · rintro i ⟨hi, he⟩
    by_cases hlt : i < l.length
    · have d1 : decide ((i : Int) < (l.length : Int)) = true := by simpa using hlt
      have hwi : IntKind.i64.wrap ((i : Int) + 1) = ((i + 1 : Nat) : Int) := i64_in (by omega) (by omega)
      have d2 : decide ((i : Int) ≥ (s.length : Int)) = false := by simp; omega
      have gi := prs_at hlt
      have gs := ints_get (l := s) (i := i) (by omega)
      have hE := c_PEnds _ (hw i hlt) (s.getD i 0)
      have hst : endsJ l s (i + 1) = (endsJ l s i && (decide (0 ≤ s.getD i 0) && (l.getD i noPr).F.getD (s.getD i 0).toNat false)) := by simp [endsJ, List.range_succ]
      have hno : (decide (0 ≤ s.getD i 0) && (l.getD i noPr).F.getD (s.getD i 0).toNat false) = false → endsJ l s l.length = false := fun q => by
        unfold endsJ
        rw [List.all_eq_false]
        exact ⟨i, List.mem_range.2 hlt, by rw [q]; decide⟩
      generalize (decide (0 ≤ s.getD i 0) && (l.getD i noPr).F.getD (s.getD i 0).toNat false) = b at *
      (repeat (first | refine awp_seq ?_ | refine awp_block ?_ | ((first | refine awp_skip ?_ | refine awp_exit ?_ | refine awp_reg ttok ?_ | (refine awp_draw ttok ?dr_calm ?_; (case dr_calm => decide +kernel)) | refine awp_condM ?_); simp (maxSteps := 4000000) only [↓reduceIte, Nat.reduceLT, Nat.reduceEqDiff, reduceCtorEq, Nat.reduceAdd, Nat.reduceMul, Int.reduceLE, Int.reduceLT, Int.reduceToNat, Nat.reduceLeDiff, Nat.reduceSub, Int.reduceEq, Nat.reduceBEq, List.replicate, List.set, evB, tyA, d1, gi, prs_len]; (repeat (with_reducible refine And.intro ?_ ?_; exact sdX)); (with_reducible first | refine awp_id ?_ | refine id_call ?_ | refine id_and ?_ | refine id_ex ?_ | refine id_all ?_ | refine id_nat ?_ | refine id_le ?_))))
      refine awp_drawG ttok ((0, none) :: (1, none) :: (2, none) :: (3, none) :: (4, none) :: (5, none) :: (6, none) :: (7, none) :: (8, none) :: (9, none) :: (10, some []) :: (11, none) :: (12, none) :: []) ([]) ([]) (by decide +kernel) fun O hO => ?_; simp only [OpsAre, Nat.reduceAdd, and_true, List.toList_toArray, List.append_eq, List.cons_append, List.nil_append] at hO; simp (maxSteps := 4000000) only [↓reduceIte, Nat.reduceLT, Nat.reduceEqDiff, reduceCtorEq, Nat.reduceAdd, Nat.reduceMul, Int.reduceLE, Int.reduceLT, Int.reduceToNat, Nat.reduceLeDiff, Nat.reduceSub, Int.reduceEq, Nat.reduceBEq, List.replicate, List.set, evB, tyA, hO, d2, ints_len, gs]; (repeat (with_reducible refine And.intro ?_ ?_; exact sdX))
      refine callVC_scal fnok28 hE rfl ?_
      cases b
      · have hno := hno rfl
        simp (maxSteps := 4000000) only [↓reduceIte, Nat.reduceLT, Nat.reduceEqDiff, reduceCtorEq, Nat.reduceAdd, Nat.reduceMul, Int.reduceLE, Int.reduceLT, Int.reduceToNat, Nat.reduceLeDiff, Nat.reduceSub, Int.reduceEq, Nat.reduceBEq, List.replicate, List.set, evB, tyA, hO]
        (repeat (with_reducible refine And.intro ?_ ?_; exact sdX))
        (repeat (first | refine awp_seq ?_ | refine awp_block ?_ | ((first | refine awp_skip ?_ | refine awp_exit ?_ | refine awp_reg ttok ?_ | (refine awp_draw ttok ?dr_calm ?_; (case dr_calm => decide +kernel)) | refine awp_condM ?_); simp (maxSteps := 4000000) only [↓reduceIte, Nat.reduceLT, Nat.reduceEqDiff, reduceCtorEq, Nat.reduceAdd, Nat.reduceMul, Int.reduceLE, Int.reduceLT, Int.reduceToNat, Nat.reduceLeDiff, Nat.reduceSub, Int.reduceEq, Nat.reduceBEq, List.replicate, List.set, evB, tyA]; (repeat (with_reducible refine And.intro ?_ ?_; exact sdX)); (with_reducible first | refine awp_id ?_ | refine id_call ?_ | refine id_and ?_ | refine id_ex ?_ | refine id_all ?_ | refine id_nat ?_ | refine id_le ?_))))
        exact awp_ret (ends_plain (.inr rfl) rfl (by simp (maxSteps := 4000000) only [↓reduceIte, Nat.reduceLT, Nat.reduceEqDiff, reduceCtorEq, Nat.reduceAdd, Nat.reduceMul, Int.reduceLE, Int.reduceLT, Int.reduceToNat, Nat.reduceLeDiff, Nat.reduceSub, Int.reduceEq, Nat.reduceBEq, List.replicate, List.set, evB, hno]))
      · rw [he, Bool.and_true] at hst
        simp (maxSteps := 4000000) only [↓reduceIte, Nat.reduceLT, Nat.reduceEqDiff, reduceCtorEq, Nat.reduceAdd, Nat.reduceMul, Int.reduceLE, Int.reduceLT, Int.reduceToNat, Nat.reduceLeDiff, Nat.reduceSub, Int.reduceEq, Nat.reduceBEq, List.replicate, List.set, evB, tyA, hO]
        (repeat (with_reducible refine And.intro ?_ ?_; exact sdX))
        (repeat (first | refine awp_seq ?_ | refine awp_block ?_ | ((first | refine awp_skip ?_ | refine awp_exit ?_ | refine awp_reg ttok ?_ | (refine awp_draw ttok ?dr_calm ?_; (case dr_calm => decide +kernel)) | refine awp_condM ?_); simp (maxSteps := 4000000) only [↓reduceIte, Nat.reduceLT, Nat.reduceEqDiff, reduceCtorEq, Nat.reduceAdd, Nat.reduceMul, Int.reduceLE, Int.reduceLT, Int.reduceToNat, Nat.reduceLeDiff, Nat.reduceSub, Int.reduceEq, Nat.reduceBEq, List.replicate, List.set, evB, tyA, hwi]; (repeat (with_reducible refine And.intro ?_ ?_; exact sdX)); (with_reducible first | refine awp_id ?_ | refine id_call ?_ | refine id_and ?_ | refine id_ex ?_ | refine id_all ?_ | refine id_nat ?_ | refine id_le ?_))))
        refine ⟨i + 1, ⟨by omega, hst⟩, by omega, mkS_le rfl ?_ trivial⟩
        simp (maxSteps := 4000000) only [↓reduceIte, Nat.reduceLT, Nat.reduceEqDiff, reduceCtorEq, Nat.reduceAdd, Nat.reduceMul, Int.reduceLE, Int.reduceLT, Int.reduceToNat, Nat.reduceLeDiff, Nat.reduceSub, Int.reduceEq, Nat.reduceBEq, List.replicate, List.set, evB]
    · have d1 : decide ((i : Int) < (l.length : Int)) = false := by simpa using hlt
      obtain rfl : i = l.length := by omega
      (repeat (first | refine awp_seq ?_ | refine awp_block ?_ | ((first | refine awp_skip ?_ | refine awp_exit ?_ | refine awp_reg ttok ?_ | (refine awp_draw ttok ?dr_calm ?_; (case dr_calm => decide +kernel)) | refine awp_condM ?_); simp (maxSteps := 4000000) only [↓reduceIte, Nat.reduceLT, Nat.reduceEqDiff, reduceCtorEq, Nat.reduceAdd, Nat.reduceMul, Int.reduceLE, Int.reduceLT, Int.reduceToNat, Nat.reduceLeDiff, Nat.reduceSub, Int.reduceEq, Nat.reduceBEq, List.replicate, List.set, evB, tyA, d1]; (repeat (with_reducible refine And.intro ?_ ?_; exact sdX)); (with_reducible first | refine awp_id ?_ | refine id_call ?_ | refine id_and ?_ | refine id_ex ?_ | refine id_all ?_ | refine id_nat ?_ | refine id_le ?_))))
      exact awp_ret (ends_plain (.inr rfl) rfl (by simp (maxSteps := 4000000) only [↓reduceIte, Nat.reduceLT, Nat.reduceEqDiff, reduceCtorEq, Nat.reduceAdd, Nat.reduceMul, Int.reduceLE, Int.reduceLT, Int.reduceToNat, Nat.reduceLeDiff, Nat.reduceSub, Int.reduceEq, Nat.reduceBEq, List.replicate, List.set, evB, he]))
theorem firstP_at {g : Int → Pr} {n i : Nat} (h : i < n) : (firstP g n).getD i noPr = g (i : Int) := by
  simp [firstP, List.getD, h]
set_option maxHeartbeats 16000000 in
theorem c_JMay {N : List (List Int)} {lb : List Lab} (hL : lb.length ≤ 1000) {st : Nat} {F : List Bool} {g : Int → Pr} (n : Nat) (hn : n ≤ 16) (hg : ∀ p : Nat, p < n → POk lb st F N (p : Int) (g (p : Int))) (f f2 : Bool) :
    Contract Try.prog 39 [.sl f (prs (firstP g n)), .sl f2 (tri lb)] (bo true) [] := by
  refine contract_of_awp (rs := [4]) Try.func39 rfl Try.ntmps39 (by simp) rfl fun E => ?_
  have hfl := firstP_len g n
  (repeat (first | refine awp_seq ?_ | refine awp_block ?_ | ((first | refine awp_skip ?_ | refine awp_exit ?_ | refine awp_reg ttok ?_ | (refine awp_draw ttok ?dr_calm ?_; (case dr_calm => decide +kernel)) | refine awp_condM ?_); simp (maxSteps := 4000000) only [↓reduceIte, Nat.reduceLT, Nat.reduceEqDiff, reduceCtorEq, Nat.reduceAdd, Nat.reduceMul, Int.reduceLE, Int.reduceLT, Int.reduceToNat, Nat.reduceLeDiff, Nat.reduceSub, Int.reduceEq, Nat.reduceBEq, List.replicate, List.set, evB, tyA, prs_len, hfl]; (repeat (with_reducible refine And.intro ?_ ?_; exact sdX)); (with_reducible first | refine awp_id ?_ | refine id_call ?_ | refine id_and ?_ | refine id_ex ?_ | refine id_all ?_ | refine id_nat ?_ | refine id_le ?_))))
  refine awp_loop (X := Nat) (fun i => mkS 28 [(0, .sl f (prs (firstP g n))), (1, .sl f2 (tri lb)), (7, .sl f (prs (firstP g n))), (8, i64 n), (9, i64 i)] []) (fun i => i ≤ n) (fun i => n - i) 0 (Nat.zero_le _) (mkS_le rfl ?_ trivial) ?_
  · simp (maxSteps := 4000000) only [↓reduceIte, Nat.reduceLT, Nat.reduceEqDiff, reduceCtorEq, Nat.reduceAdd, Nat.reduceMul, Int.reduceLE, Int.reduceLT, Int.reduceToNat, Nat.reduceLeDiff, Nat.reduceSub, Int.reduceEq, Nat.reduceBEq, List.replicate, List.set, evB, prs_len, hfl]
    try rfl
  · intro i hi
    by_cases hlt : i < n
    · have d1 : decide ((i : Int) < (n : Int)) = true := by simpa using hlt
      have hwi : IntKind.i64.wrap ((i : Int) + 1) = ((i + 1 : Nat) : Int) := i64_in (by omega) (by omega)
      have gi := prs_get (g := g) hlt
      have hx := hg i hlt
      generalize g (i : Int) = x at *
      have kp : (x.p != (i : Int)) = false := by rw [hx.p]; simp
      have hM := c_PMay hL hx f2
      (repeat (first | refine awp_seq ?_ | refine awp_block ?_ | ((first | refine awp_skip ?_ | refine awp_exit ?_ | refine awp_reg ttok ?_ | (refine awp_draw ttok ?dr_calm ?_; (case dr_calm => decide +kernel)) | refine awp_condM ?_); simp (maxSteps := 4000000) only [↓reduceIte, Nat.reduceLT, Nat.reduceEqDiff, reduceCtorEq, Nat.reduceAdd, Nat.reduceMul, Int.reduceLE, Int.reduceLT, Int.reduceToNat, Nat.reduceLeDiff, Nat.reduceSub, Int.reduceEq, Nat.reduceBEq, List.replicate, List.set, evB, tyA, d1, gi, prs_len, hfl, kp]; (repeat (with_reducible refine And.intro ?_ ?_; exact sdX)); (with_reducible first | refine awp_id ?_ | refine id_call ?_ | refine id_and ?_ | refine id_ex ?_ | refine id_all ?_ | refine id_nat ?_ | refine id_le ?_))))
      refine callVC_scal fnok31 hM rfl ?_
      simp (maxSteps := 4000000) only [↓reduceIte, Nat.reduceLT, Nat.reduceEqDiff, reduceCtorEq, Nat.reduceAdd, Nat.reduceMul, Int.reduceLE, Int.reduceLT, Int.reduceToNat, Nat.reduceLeDiff, Nat.reduceSub, Int.reduceEq, Nat.reduceBEq, List.replicate, List.set, evB, tyA]
      (repeat (with_reducible refine And.intro ?_ ?_; exact sdX))
      (repeat (first | refine awp_seq ?_ | refine awp_block ?_ | ((first | refine awp_skip ?_ | refine awp_exit ?_ | refine awp_reg ttok ?_ | (refine awp_draw ttok ?dr_calm ?_; (case dr_calm => decide +kernel)) | refine awp_condM ?_); simp (maxSteps := 4000000) only [↓reduceIte, Nat.reduceLT, Nat.reduceEqDiff, reduceCtorEq, Nat.reduceAdd, Nat.reduceMul, Int.reduceLE, Int.reduceLT, Int.reduceToNat, Nat.reduceLeDiff, Nat.reduceSub, Int.reduceEq, Nat.reduceBEq, List.replicate, List.set, evB, tyA, hwi]; (repeat (with_reducible refine And.intro ?_ ?_; exact sdX)); (with_reducible first | refine awp_id ?_ | refine id_call ?_ | refine id_and ?_ | refine id_ex ?_ | refine id_all ?_ | refine id_nat ?_ | refine id_le ?_))))
      refine ⟨i + 1, by omega, by omega, mkS_le rfl ?_ trivial⟩
      simp (maxSteps := 4000000) only [↓reduceIte, Nat.reduceLT, Nat.reduceEqDiff, reduceCtorEq, Nat.reduceAdd, Nat.reduceMul, Int.reduceLE, Int.reduceLT, Int.reduceToNat, Nat.reduceLeDiff, Nat.reduceSub, Int.reduceEq, Nat.reduceBEq, List.replicate, List.set, evB]
    · have d1 : decide ((i : Int) < (n : Int)) = false := by simpa using hlt
      have d2 : decide ((n : Int) ≤ 16) = true := by simp; omega
      (repeat (first | refine awp_seq ?_ | refine awp_block ?_ | ((first | refine awp_skip ?_ | refine awp_exit ?_ | refine awp_reg ttok ?_ | (refine awp_draw ttok ?dr_calm ?_; (case dr_calm => decide +kernel)) | refine awp_condM ?_); simp (maxSteps := 4000000) only [↓reduceIte, Nat.reduceLT, Nat.reduceEqDiff, reduceCtorEq, Nat.reduceAdd, Nat.reduceMul, Int.reduceLE, Int.reduceLT, Int.reduceToNat, Nat.reduceLeDiff, Nat.reduceSub, Int.reduceEq, Nat.reduceBEq, List.replicate, List.set, evB, tyA, d1, prs_len, hfl, d2]; (repeat (with_reducible refine And.intro ?_ ?_; exact sdX)); (with_reducible first | refine awp_id ?_ | refine id_call ?_ | refine id_and ?_ | refine id_ex ?_ | refine id_all ?_ | refine id_nat ?_ | refine id_le ?_))))
      exact awp_ret (ends_plain (.inr rfl) rfl evX)
def toJ (l : List Pr) (s : List Int) (u v : Nat) (k : Int) : Option (List Int) :=
  if 0 ≤ toD (l.getD u noPr).N (s.getD u 0) (findA (l.getD u noPr).A (1, k)) ∧ 0 ≤ toD (l.getD v noPr).N (s.getD v 0) (findA (l.getD v noPr).A (2, k)) then
    some ((s.set u (toD (l.getD u noPr).N (s.getD u 0) (findA (l.getD u noPr).A (1, k)))).set v (toD (l.getD v noPr).N (s.getD v 0) (findA (l.getD v noPr).A (2, k))))
  else none
def toJD : Option (List Int) → D
  | some s => .tup [.sl false (ints s), bo true]
  | none => .tup [.sl true [], bo false]
set_option maxHeartbeats 16000000 in
theorem c_JToBad (f g h : Bool) (l : List Pr) (lb : List Lab) (s : List Int) (k : Int) (hb : k < 0 ∨ (lb.length : Int) ≤ k ∨ s.length ≠ l.length) :
    Contract Try.prog 38 [.sl f (prs l), .sl g (tri lb), .sl h (ints s), i64 k] (toJD none) [] := by
  refine contract_of_awp (rs := [8, 9]) Try.func38 rfl Try.ntmps38 (by simp) rfl fun E => ?_
  by_cases h0 : k < 0
  · have e1 : decide (k < 0) = true := by simpa using h0
    (repeat (first | refine awp_seq ?_ | refine awp_block ?_ | ((first | refine awp_skip ?_ | refine awp_exit ?_ | refine awp_reg ttok ?_ | (refine awp_draw ttok ?dr_calm ?_; (case dr_calm => decide +kernel)) | refine awp_condM ?_); simp (maxSteps := 4000000) only [↓reduceIte, Nat.reduceLT, Nat.reduceEqDiff, reduceCtorEq, Nat.reduceAdd, Nat.reduceMul, Int.reduceLE, Int.reduceLT, Int.reduceToNat, Nat.reduceLeDiff, Nat.reduceSub, Int.reduceEq, Nat.reduceBEq, List.replicate, List.set, evB, tyA, prs_len, tri_len, ints_len, e1]; (repeat (with_reducible refine And.intro ?_ ?_; exact sdX)); (with_reducible first | refine awp_id ?_ | refine id_call ?_ | refine id_and ?_ | refine id_ex ?_ | refine id_all ?_ | refine id_nat ?_ | refine id_le ?_))))
    exact awp_ret (ends_plain (.inr rfl) rfl (by simp (maxSteps := 4000000) only [↓reduceIte, Nat.reduceLT, Nat.reduceEqDiff, reduceCtorEq, Nat.reduceAdd, Nat.reduceMul, Int.reduceLE, Int.reduceLT, Int.reduceToNat, Nat.reduceLeDiff, Nat.reduceSub, Int.reduceEq, Nat.reduceBEq, List.replicate, List.set, evB, toJD]))
  · have e1 : decide (k < 0) = false := by simpa using h0
    by_cases h1 : (lb.length : Int) ≤ k
    · have e2 : decide (k ≥ (lb.length : Int)) = true := by simpa using h1
      (repeat (first | refine awp_seq ?_ | refine awp_block ?_ | ((first | refine awp_skip ?_ | refine awp_exit ?_ | refine awp_reg ttok ?_ | (refine awp_draw ttok ?dr_calm ?_; (case dr_calm => decide +kernel)) | refine awp_condM ?_); simp (maxSteps := 4000000) only [↓reduceIte, Nat.reduceLT, Nat.reduceEqDiff, reduceCtorEq, Nat.reduceAdd, Nat.reduceMul, Int.reduceLE, Int.reduceLT, Int.reduceToNat, Nat.reduceLeDiff, Nat.reduceSub, Int.reduceEq, Nat.reduceBEq, List.replicate, List.set, evB, tyA, prs_len, tri_len, ints_len, e1, e2]; (repeat (with_reducible refine And.intro ?_ ?_; exact sdX)); (with_reducible first | refine awp_id ?_ | refine id_call ?_ | refine id_and ?_ | refine id_ex ?_ | refine id_all ?_ | refine id_nat ?_ | refine id_le ?_))))
      exact awp_ret (ends_plain (.inr rfl) rfl (by simp (maxSteps := 4000000) only [↓reduceIte, Nat.reduceLT, Nat.reduceEqDiff, reduceCtorEq, Nat.reduceAdd, Nat.reduceMul, Int.reduceLE, Int.reduceLT, Int.reduceToNat, Nat.reduceLeDiff, Nat.reduceSub, Int.reduceEq, Nat.reduceBEq, List.replicate, List.set, evB, toJD]))
    · have e2 : decide (k ≥ (lb.length : Int)) = false := by simp; omega
      have e3 : ((s.length : Int) != (l.length : Int)) = true := by simp; omega
      (repeat (first | refine awp_seq ?_ | refine awp_block ?_ | ((first | refine awp_skip ?_ | refine awp_exit ?_ | refine awp_reg ttok ?_ | (refine awp_draw ttok ?dr_calm ?_; (case dr_calm => decide +kernel)) | refine awp_condM ?_); simp (maxSteps := 4000000) only [↓reduceIte, Nat.reduceLT, Nat.reduceEqDiff, reduceCtorEq, Nat.reduceAdd, Nat.reduceMul, Int.reduceLE, Int.reduceLT, Int.reduceToNat, Nat.reduceLeDiff, Nat.reduceSub, Int.reduceEq, Nat.reduceBEq, List.replicate, List.set, evB, tyA, prs_len, tri_len, ints_len, e1, e2, e3]; (repeat (with_reducible refine And.intro ?_ ?_; exact sdX)); (with_reducible first | refine awp_id ?_ | refine id_call ?_ | refine id_and ?_ | refine id_ex ?_ | refine id_all ?_ | refine id_nat ?_ | refine id_le ?_))))
      exact awp_ret (ends_plain (.inr rfl) rfl (by simp (maxSteps := 4000000) only [↓reduceIte, Nat.reduceLT, Nat.reduceEqDiff, reduceCtorEq, Nat.reduceAdd, Nat.reduceMul, Int.reduceLE, Int.reduceLT, Int.reduceToNat, Nat.reduceLeDiff, Nat.reduceSub, Int.reduceEq, Nat.reduceBEq, List.replicate, List.set, evB, toJD]))
set_option maxHeartbeats 32000000 in
theorem c_JTo (f g h : Bool) (l : List Pr) (lb : List Lab) (s : List Int) (k u v : Nat) (hl : l.length ≤ 1000) (hk : k < lb.length) (hs : s.length = l.length) (hu : u < l.length) (hv : v < l.length) (huv : u ≠ v)
    (hx1 : (lb.getD k (0, 0, 0)).1 = (u : Int)) (hx2 : (lb.getD k (0, 0, 0)).2.1 = (v : Int)) (hw : ∀ i, i < l.length → PWf (l.getD i noPr)) :
    Contract Try.prog 38 [.sl f (prs l), .sl g (tri lb), .sl h (ints s), i64 k] (toJD (toJ l s u v (k : Int))) [] := by
  refine contract_of_awp (rs := [8, 9]) Try.func38 rfl Try.ntmps38 (by simp) rfl fun E => ?_
  have e1 : decide ((k : Int) < 0) = false := by simp
  have e2 : decide ((k : Int) ≥ (lb.length : Int)) = false := by simp; omega
  have e3 : ((s.length : Int) != (l.length : Int)) = false := by simp [hs]
  have gk := tri_get hk
  rw [hx1, hx2] at gk
  have e4 : decide ((u : Int) < 0) = false := by simp
  have e5 : decide ((u : Int) ≥ (l.length : Int)) = false := by simp; omega
  have e6 : decide ((v : Int) < 0) = false := by simp
  have e7 : decide ((v : Int) ≥ (l.length : Int)) = false := by simp; omega
  have gu := prs_at hu
  have gv := prs_at hv
  have su := ints_get (l := s) (i := u) (by omega)
  have sv := ints_get (l := s) (i := v) (by omega)
  have sv2 : ∀ c : Int, (ints (s.set u c)).getD v [] = [i64 (s.getD v 0)] := fun c => by
    rw [ints_get (l := s.set u c) (i := v) (by simp; omega)]
    simp [List.getD, List.getElem?_set_ne huv]
  have hA := c_PTo _ (hw u hu) (s.getD u 0) (1, (k : Int))
  have hB := c_PTo _ (hw v hv) (s.getD v 0) (2, (k : Int))
  have hCl := c_CloneI h s (by omega)
  unfold toJ
  generalize toD (l.getD u noPr).N (s.getD u 0) (findA (l.getD u noPr).A (1, (k : Int))) = a at *
  generalize toD (l.getD v noPr).N (s.getD v 0) (findA (l.getD v noPr).A (2, (k : Int))) = b at *
  generalize l.getD u noPr = x at *
  generalize l.getD v noPr = y at *
  generalize s.getD u 0 = p at *
  generalize s.getD v 0 = q at *
  (repeat (first | refine awp_seq ?_ | refine awp_block ?_ | ((first | refine awp_skip ?_ | refine awp_exit ?_ | refine awp_reg ttok ?_ | (refine awp_draw ttok ?dr_calm ?_; (case dr_calm => decide +kernel)) | refine awp_condM ?_); simp (maxSteps := 4000000) only [↓reduceIte, Nat.reduceLT, Nat.reduceEqDiff, reduceCtorEq, Nat.reduceAdd, Nat.reduceMul, Int.reduceLE, Int.reduceLT, Int.reduceToNat, Nat.reduceLeDiff, Nat.reduceSub, Int.reduceEq, Nat.reduceBEq, List.replicate, List.set, evB, tyA, prs_len, tri_len, ints_len, e1, e2, e3, gk, e4, e5, e6, e7]; (repeat (with_reducible refine And.intro ?_ ?_; exact sdX)); (with_reducible first | refine awp_id ?_ | refine id_call ?_ | refine id_and ?_ | refine id_ex ?_ | refine id_all ?_ | refine id_nat ?_ | refine id_le ?_))))
  refine awp_drawG ttok ((0, none) :: (1, none) :: (2, none) :: (3, none) :: (4, none) :: (5, none) :: (6, none) :: (7, none) :: (8, none) :: (9, none) :: (10, none) :: (11, none) :: (12, some []) :: (13, none) :: []) ([]) ([]) (by decide +kernel) fun O hO => ?_; simp only [OpsAre, Nat.reduceAdd, and_true, List.toList_toArray, List.append_eq, List.cons_append, List.nil_append] at hO; simp (maxSteps := 4000000) only [↓reduceIte, Nat.reduceLT, Nat.reduceEqDiff, reduceCtorEq, Nat.reduceAdd, Nat.reduceMul, Int.reduceLE, Int.reduceLT, Int.reduceToNat, Nat.reduceLeDiff, Nat.reduceSub, Int.reduceEq, Nat.reduceBEq, List.replicate, List.set, evB, tyA, hO, gu, prs_len, su, ints_len]; (repeat (with_reducible refine And.intro ?_ ?_; exact sdX))
  refine callVC_scal fnok27 hA rfl ?_
  simp (maxSteps := 4000000) only [↓reduceIte, Nat.reduceLT, Nat.reduceEqDiff, reduceCtorEq, Nat.reduceAdd, Nat.reduceMul, Int.reduceLE, Int.reduceLT, Int.reduceToNat, Nat.reduceLeDiff, Nat.reduceSub, Int.reduceEq, Nat.reduceBEq, List.replicate, List.set, evB, tyA, hO]
  (repeat (with_reducible refine And.intro ?_ ?_; exact sdX))
  (repeat (first | refine awp_seq ?_ | refine awp_block ?_ | ((first | refine awp_skip ?_ | refine awp_exit ?_ | refine awp_reg ttok ?_ | (refine awp_draw ttok ?dr_calm ?_; (case dr_calm => decide +kernel)) | refine awp_condM ?_); simp (maxSteps := 4000000) only [↓reduceIte, Nat.reduceLT, Nat.reduceEqDiff, reduceCtorEq, Nat.reduceAdd, Nat.reduceMul, Int.reduceLE, Int.reduceLT, Int.reduceToNat, Nat.reduceLeDiff, Nat.reduceSub, Int.reduceEq, Nat.reduceBEq, List.replicate, List.set, evB, tyA]; (repeat (with_reducible refine And.intro ?_ ?_; exact sdX)); (with_reducible first | refine awp_id ?_ | refine id_call ?_ | refine id_and ?_ | refine id_ex ?_ | refine id_all ?_ | refine id_nat ?_ | refine id_le ?_))))
  refine awp_drawG ttok ((0, none) :: (1, none) :: (2, none) :: (3, none) :: (4, none) :: (5, none) :: (6, none) :: (7, none) :: (8, none) :: (9, none) :: (10, none) :: (11, none) :: (12, some []) :: (13, none) :: []) ([]) ([]) (by decide +kernel) fun O hO => ?_; simp only [OpsAre, Nat.reduceAdd, and_true, List.toList_toArray, List.append_eq, List.cons_append, List.nil_append] at hO; simp (maxSteps := 4000000) only [↓reduceIte, Nat.reduceLT, Nat.reduceEqDiff, reduceCtorEq, Nat.reduceAdd, Nat.reduceMul, Int.reduceLE, Int.reduceLT, Int.reduceToNat, Nat.reduceLeDiff, Nat.reduceSub, Int.reduceEq, Nat.reduceBEq, List.replicate, List.set, evB, tyA, hO, gv, prs_len, sv, ints_len]; (repeat (with_reducible refine And.intro ?_ ?_; exact sdX))
  refine callVC_scal fnok27 hB rfl ?_
  simp (maxSteps := 4000000) only [↓reduceIte, Nat.reduceLT, Nat.reduceEqDiff, reduceCtorEq, Nat.reduceAdd, Nat.reduceMul, Int.reduceLE, Int.reduceLT, Int.reduceToNat, Nat.reduceLeDiff, Nat.reduceSub, Int.reduceEq, Nat.reduceBEq, List.replicate, List.set, evB, tyA, hO]
  (repeat (with_reducible refine And.intro ?_ ?_; exact sdX))
  by_cases ha : a < 0
  · have f1 : decide (a < 0) = true := by simpa using ha
    rw [if_neg (by omega)]
    (repeat (first | refine awp_seq ?_ | refine awp_block ?_ | ((first | refine awp_skip ?_ | refine awp_exit ?_ | refine awp_reg ttok ?_ | (refine awp_draw ttok ?dr_calm ?_; (case dr_calm => decide +kernel)) | refine awp_condM ?_); simp (maxSteps := 4000000) only [↓reduceIte, Nat.reduceLT, Nat.reduceEqDiff, reduceCtorEq, Nat.reduceAdd, Nat.reduceMul, Int.reduceLE, Int.reduceLT, Int.reduceToNat, Nat.reduceLeDiff, Nat.reduceSub, Int.reduceEq, Nat.reduceBEq, List.replicate, List.set, evB, tyA, f1]; (repeat (with_reducible refine And.intro ?_ ?_; exact sdX)); (with_reducible first | refine awp_id ?_ | refine id_call ?_ | refine id_and ?_ | refine id_ex ?_ | refine id_all ?_ | refine id_nat ?_ | refine id_le ?_))))
    exact awp_ret (ends_plain (.inr rfl) rfl (by simp (maxSteps := 4000000) only [↓reduceIte, Nat.reduceLT, Nat.reduceEqDiff, reduceCtorEq, Nat.reduceAdd, Nat.reduceMul, Int.reduceLE, Int.reduceLT, Int.reduceToNat, Nat.reduceLeDiff, Nat.reduceSub, Int.reduceEq, Nat.reduceBEq, List.replicate, List.set, evB, toJD]))
  · have f1 : decide (a < 0) = false := by simpa using ha
    by_cases hb : b < 0
    · have f2 : decide (b < 0) = true := by simpa using hb
      rw [if_neg (by omega)]
      (repeat (first | refine awp_seq ?_ | refine awp_block ?_ | ((first | refine awp_skip ?_ | refine awp_exit ?_ | refine awp_reg ttok ?_ | (refine awp_draw ttok ?dr_calm ?_; (case dr_calm => decide +kernel)) | refine awp_condM ?_); simp (maxSteps := 4000000) only [↓reduceIte, Nat.reduceLT, Nat.reduceEqDiff, reduceCtorEq, Nat.reduceAdd, Nat.reduceMul, Int.reduceLE, Int.reduceLT, Int.reduceToNat, Nat.reduceLeDiff, Nat.reduceSub, Int.reduceEq, Nat.reduceBEq, List.replicate, List.set, evB, tyA, f1, f2]; (repeat (with_reducible refine And.intro ?_ ?_; exact sdX)); (with_reducible first | refine awp_id ?_ | refine id_call ?_ | refine id_and ?_ | refine id_ex ?_ | refine id_all ?_ | refine id_nat ?_ | refine id_le ?_))))
      exact awp_ret (ends_plain (.inr rfl) rfl (by simp (maxSteps := 4000000) only [↓reduceIte, Nat.reduceLT, Nat.reduceEqDiff, reduceCtorEq, Nat.reduceAdd, Nat.reduceMul, Int.reduceLE, Int.reduceLT, Int.reduceToNat, Nat.reduceLeDiff, Nat.reduceSub, Int.reduceEq, Nat.reduceBEq, List.replicate, List.set, evB, toJD]))
    · have f2 : decide (b < 0) = false := by simpa using hb
      rw [if_pos (by omega)]
      (repeat (first | refine awp_seq ?_ | refine awp_block ?_ | ((first | refine awp_skip ?_ | refine awp_exit ?_ | refine awp_reg ttok ?_ | (refine awp_draw ttok ?dr_calm ?_; (case dr_calm => decide +kernel)) | refine awp_condM ?_); simp (maxSteps := 4000000) only [↓reduceIte, Nat.reduceLT, Nat.reduceEqDiff, reduceCtorEq, Nat.reduceAdd, Nat.reduceMul, Int.reduceLE, Int.reduceLT, Int.reduceToNat, Nat.reduceLeDiff, Nat.reduceSub, Int.reduceEq, Nat.reduceBEq, List.replicate, List.set, evB, tyA, f1, f2]; (repeat (with_reducible refine And.intro ?_ ?_; exact sdX)); (with_reducible first | refine awp_id ?_ | refine id_call ?_ | refine id_and ?_ | refine id_ex ?_ | refine id_all ?_ | refine id_nat ?_ | refine id_le ?_))))
      refine callVC_mk fnok66 hCl rfl ?_
      simp (maxSteps := 4000000) only [↓reduceIte, Nat.reduceLT, Nat.reduceEqDiff, reduceCtorEq, Nat.reduceAdd, Nat.reduceMul, Int.reduceLE, Int.reduceLT, Int.reduceToNat, Nat.reduceLeDiff, Nat.reduceSub, Int.reduceEq, Nat.reduceBEq, List.replicate, List.set, evB, tyA]
      (repeat (with_reducible refine And.intro ?_ ?_; exact sdX))
      (repeat (first | refine awp_seq ?_ | refine awp_block ?_ | ((first | refine awp_skip ?_ | refine awp_exit ?_ | refine awp_reg ttok ?_ | (refine awp_draw ttok ?dr_calm ?_; (case dr_calm => decide +kernel)) | refine awp_condM ?_); simp (maxSteps := 4000000) only [↓reduceIte, Nat.reduceLT, Nat.reduceEqDiff, reduceCtorEq, Nat.reduceAdd, Nat.reduceMul, Int.reduceLE, Int.reduceLT, Int.reduceToNat, Nat.reduceLeDiff, Nat.reduceSub, Int.reduceEq, Nat.reduceBEq, List.replicate, List.set, evB, tyA]; (repeat (with_reducible refine And.intro ?_ ?_; exact sdX)); (with_reducible first | refine awp_id ?_ | refine id_call ?_ | refine id_and ?_ | refine id_ex ?_ | refine id_all ?_ | refine id_nat ?_ | refine id_le ?_))))
      have hsu : (ints s).set u [i64 a] = ints (s.set u a) := by simp [ints, List.map_set]
      have hsv : (ints (s.set u a)).set v [i64 b] = ints ((s.set u a).set v b) := by simp [ints, List.map_set]
      have hl1 : (s.set u a).length = s.length := List.length_set
      have hl2 : ((s.set u a).set v b).length = s.length := by simp
      have htk : List.take s.length ((s.set u a).set v b) = (s.set u a).set v b := List.take_of_length_le (by omega)
      refine awp_drawG ttok ((0, none) :: (1, none) :: (2, none) :: (3, none) :: (4, none) :: (5, none) :: (6, none) :: (7, none) :: (8, none) :: (9, some [3, 4, 5, 7]) :: (10, none) :: (11, some []) :: []) (0 :: 1 :: 2 :: 3 :: 4 :: 5 :: 6 :: 7 :: 8 :: 9 :: 10 :: 11 :: []) (0 :: 1 :: 2 :: 6 :: 8 :: 9 :: 3 :: 4 :: 5 :: 7 :: 10 :: 11 :: []) (by decide +kernel) fun O hO => ?_; simp only [OpsAre, Nat.reduceAdd, and_true, List.toList_toArray, List.append_eq, List.cons_append, List.nil_append] at hO; simp (maxSteps := 4000000) only [↓reduceIte, Nat.reduceLT, Nat.reduceEqDiff, reduceCtorEq, Nat.reduceAdd, Nat.reduceMul, Int.reduceLE, Int.reduceLT, Int.reduceToNat, Nat.reduceLeDiff, Nat.reduceSub, Int.reduceEq, Nat.reduceBEq, List.replicate, List.set, evB, tyA, hO, ints_len, su, hsu, sv2, hsv, hl1]; (repeat (with_reducible refine And.intro ?_ ?_; exact sdX))
      (repeat (with_reducible refine And.intro ?_ ?_; exact sdX))
      (repeat (first | refine awp_seq ?_ | refine awp_block ?_ | ((first | refine awp_skip ?_ | refine awp_exit ?_ | refine awp_reg ttok ?_ | (refine awp_draw ttok ?dr_calm ?_; (case dr_calm => decide +kernel)) | refine awp_condM ?_); simp (maxSteps := 4000000) only [↓reduceIte, Nat.reduceLT, Nat.reduceEqDiff, reduceCtorEq, Nat.reduceAdd, Nat.reduceMul, Int.reduceLE, Int.reduceLT, Int.reduceToNat, Nat.reduceLeDiff, Nat.reduceSub, Int.reduceEq, Nat.reduceBEq, List.replicate, List.set, evB, tyA]; (repeat (with_reducible refine And.intro ?_ ?_; exact sdX)); (with_reducible first | refine awp_id ?_ | refine id_call ?_ | refine id_and ?_ | refine id_ex ?_ | refine id_all ?_ | refine id_nat ?_ | refine id_le ?_))))
      refine awp_pure 8 (d := .own 111001 0 s.length) (d' := .sl false (ints ((s.set u a).set v b))) (ids := [111001]) (p := s.length ≤ (ints ((s.set u a).set v b)).length) evX (by simp (maxSteps := 4000000) only [↓reduceIte, Nat.reduceLT, Nat.reduceEqDiff, reduceCtorEq, Nat.reduceAdd, Nat.reduceMul, Int.reduceLE, Int.reduceLT, Int.reduceToNat, Nat.reduceLeDiff, Nat.reduceSub, Int.reduceEq, Nat.reduceBEq, List.replicate, List.set, evB, ints_take, htk]) (by rw [ints_len, hl2]; exact Nat.le_refl _) ?_
      exact awp_ret (ends_plain (.inr rfl) rfl (by simp (maxSteps := 4000000) only [↓reduceIte, Nat.reduceLT, Nat.reduceEqDiff, reduceCtorEq, Nat.reduceAdd, Nat.reduceMul, Int.reduceLE, Int.reduceLT, Int.reduceToNat, Nat.reduceLeDiff, Nat.reduceSub, Int.reduceEq, Nat.reduceBEq, List.replicate, List.set, evB, St.pureSlot, toJD]))
theorem c_MayZ : Contract Try.prog 53 [noDfa] (bo false) [] := by
  refine contract_of_awp (rs := [2]) Try.func53 rfl Try.ntmps53 (by simp) rfl fun E => ?_
  have a1 : decide ((0 : Int) < 0) = false := rfl
  have a2 : (((0 : Nat) : Int) != ((0 : Nat) : Int)) = false := rfl
  have a3 : ((0 : Int) != 0) = false := rfl
  have a4 : decide (((0 : Nat) : Int) < 1) = true := rfl
  have a5 : decide ((0 : Int) < 1) = true := rfl
  (repeat (first | refine awp_seq ?_ | refine awp_block ?_ | ((first | refine awp_skip ?_ | refine awp_exit ?_ | refine awp_reg ttok ?_ | (refine awp_draw ttok ?dr_calm ?_; (case dr_calm => decide +kernel)) | refine awp_condM ?_); simp (maxSteps := 4000000) only [↓reduceIte, Nat.reduceLT, Nat.reduceEqDiff, reduceCtorEq, Nat.reduceAdd, Nat.reduceMul, Int.reduceLE, Int.reduceLT, Int.reduceToNat, Nat.reduceLeDiff, Nat.reduceSub, Int.reduceEq, Nat.reduceBEq, List.replicate, List.set, evB, tyA, noDfa, a1, a2, a3, a4, a5]; (repeat (with_reducible refine And.intro ?_ ?_; exact sdX)); (with_reducible first | refine awp_id ?_ | refine id_call ?_ | refine id_and ?_ | refine id_ex ?_ | refine id_all ?_ | refine id_nat ?_ | refine id_le ?_))))
  exact awp_ret (ends_plain (.inr rfl) rfl evX)
def zPr : D := .agg [i64 0, .sl true [], i64 0, i64 0, .sl true [], .sl true []]
theorem c_PMayZ (f : Bool) (lb : List Lab) : Contract Try.prog 31 [zPr, .sl f (tri lb)] (bo false) [] := by
  refine contract_of_awp (rs := [4]) Try.func31 rfl Try.ntmps31 (by simp) rfl fun E => ?_
  (repeat (first | refine awp_seq ?_ | refine awp_block ?_ | ((first | refine awp_skip ?_ | refine awp_exit ?_ | refine awp_reg ttok ?_ | (refine awp_draw ttok ?dr_calm ?_; (case dr_calm => decide +kernel)) | refine awp_condM ?_); simp (maxSteps := 4000000) only [↓reduceIte, Nat.reduceLT, Nat.reduceEqDiff, reduceCtorEq, Nat.reduceAdd, Nat.reduceMul, Int.reduceLE, Int.reduceLT, Int.reduceToNat, Nat.reduceLeDiff, Nat.reduceSub, Int.reduceEq, Nat.reduceBEq, List.replicate, List.set, evB, tyA, zPr]; (repeat (with_reducible refine And.intro ?_ ?_; exact sdX)); (with_reducible first | refine awp_id ?_ | refine id_call ?_ | refine id_and ?_ | refine id_ex ?_ | refine id_all ?_ | refine id_nat ?_ | refine id_le ?_))))
  refine awp_drawG ttok ((0, none) :: (1, none) :: (2, some []) :: (3, none) :: (4, none) :: (5, none) :: (6, none) :: (7, none) :: (8, none) :: (9, none) :: (10, none) :: (11, none) :: (12, none) :: (13, none) :: (14, none) :: (15, none) :: (16, none) :: (17, none) :: (18, some [13, 14]) :: (19, some []) :: (20, none) :: (21, none) :: []) ([]) ([]) (by decide +kernel) fun O hO => ?_; simp only [OpsAre, Nat.reduceAdd, and_true, List.toList_toArray, List.append_eq, List.cons_append, List.nil_append] at hO; simp (maxSteps := 4000000) only [↓reduceIte, Nat.reduceLT, Nat.reduceEqDiff, reduceCtorEq, Nat.reduceAdd, Nat.reduceMul, Int.reduceLE, Int.reduceLT, Int.reduceToNat, Nat.reduceLeDiff, Nat.reduceSub, Int.reduceEq, Nat.reduceBEq, List.replicate, List.set, evB, tyA, hO, ]; (repeat (with_reducible refine And.intro ?_ ?_; exact sdX))
  refine callVC_scal fnok53 c_MayZ rfl ?_
  simp (maxSteps := 4000000) only [↓reduceIte, Nat.reduceLT, Nat.reduceEqDiff, reduceCtorEq, Nat.reduceAdd, Nat.reduceMul, Int.reduceLE, Int.reduceLT, Int.reduceToNat, Nat.reduceLeDiff, Nat.reduceSub, Int.reduceEq, Nat.reduceBEq, List.replicate, List.set, evB, tyA, hO]
  (repeat (with_reducible refine And.intro ?_ ?_; exact sdX))
  (repeat (first | refine awp_seq ?_ | refine awp_block ?_ | ((first | refine awp_skip ?_ | refine awp_exit ?_ | refine awp_reg ttok ?_ | (refine awp_draw ttok ?dr_calm ?_; (case dr_calm => decide +kernel)) | refine awp_condM ?_); simp (maxSteps := 4000000) only [↓reduceIte, Nat.reduceLT, Nat.reduceEqDiff, reduceCtorEq, Nat.reduceAdd, Nat.reduceMul, Int.reduceLE, Int.reduceLT, Int.reduceToNat, Nat.reduceLeDiff, Nat.reduceSub, Int.reduceEq, Nat.reduceBEq, List.replicate, List.set, evB, tyA]; (repeat (with_reducible refine And.intro ?_ ?_; exact sdX)); (with_reducible first | refine awp_id ?_ | refine id_call ?_ | refine id_and ?_ | refine id_ex ?_ | refine id_all ?_ | refine id_nat ?_ | refine id_le ?_))))
  exact awp_ret (ends_plain (.inr rfl) rfl evX)
theorem c_JMayZ (f f2 : Bool) (lb : List Lab) (n : Nat) (hn : 1 ≤ n ∧ n ≤ 1000) : Contract Try.prog 39 [.sl f (List.replicate n [i64 0, .sl true [], i64 0, i64 0, .sl true [], .sl true []]), .sl f2 (tri lb)] (bo false) [] := by
  refine contract_of_awp (rs := [4]) Try.func39 rfl Try.ntmps39 (by simp) rfl fun E => ?_
  have hg : (List.replicate n [i64 0, .sl true [], i64 0, i64 0, .sl true [], .sl true []]).getD 0 [] = [i64 0, .sl true [], i64 0, i64 0, .sl true [], .sl true []] := by
    simp [List.getD, show 0 < n by omega]
  have hl : (List.replicate n [i64 0, D.sl true [], i64 0, i64 0, .sl true [], .sl true []]).length = n := by simp
  generalize List.replicate n [i64 0, D.sl true [], i64 0, i64 0, .sl true [], .sl true []] = Z at *
  have d1 : decide ((0 : Int) < (n : Int)) = true := by simp; omega
  have k0 : ((0 : Int) != 0) = false := rfl
  have hM := c_PMayZ f2 lb
  (repeat (first | refine awp_seq ?_ | refine awp_block ?_ | ((first | refine awp_skip ?_ | refine awp_exit ?_ | refine awp_reg ttok ?_ | (refine awp_draw ttok ?dr_calm ?_; (case dr_calm => decide +kernel)) | refine awp_condM ?_); simp (maxSteps := 4000000) only [↓reduceIte, Nat.reduceLT, Nat.reduceEqDiff, reduceCtorEq, Nat.reduceAdd, Nat.reduceMul, Int.reduceLE, Int.reduceLT, Int.reduceToNat, Nat.reduceLeDiff, Nat.reduceSub, Int.reduceEq, Nat.reduceBEq, List.replicate, List.set, evB, tyA, hl]; (repeat (with_reducible refine And.intro ?_ ?_; exact sdX)); (with_reducible first | refine awp_id ?_ | refine id_call ?_ | refine id_and ?_ | refine id_ex ?_ | refine id_all ?_ | refine id_nat ?_ | refine id_le ?_))))
  refine awp_loop (X := Unit) (fun _ => mkS 28 [(0, .sl f Z), (1, .sl f2 (tri lb)), (7, .sl f Z), (8, i64 n), (9, i64 0)] []) (fun _ => True) (fun _ => 0) () trivial (mkS_le rfl ?_ trivial) ?_
  · simp (maxSteps := 4000000) only [↓reduceIte, Nat.reduceLT, Nat.reduceEqDiff, reduceCtorEq, Nat.reduceAdd, Nat.reduceMul, Int.reduceLE, Int.reduceLT, Int.reduceToNat, Nat.reduceLeDiff, Nat.reduceSub, Int.reduceEq, Nat.reduceBEq, List.replicate, List.set, evB, hl]
    try rfl
  · intro _ _
    (repeat (first | refine awp_seq ?_ | refine awp_block ?_ | ((first | refine awp_skip ?_ | refine awp_exit ?_ | refine awp_reg ttok ?_ | (refine awp_draw ttok ?dr_calm ?_; (case dr_calm => decide +kernel)) | refine awp_condM ?_); simp (maxSteps := 4000000) only [↓reduceIte, Nat.reduceLT, Nat.reduceEqDiff, reduceCtorEq, Nat.reduceAdd, Nat.reduceMul, Int.reduceLE, Int.reduceLT, Int.reduceToNat, Nat.reduceLeDiff, Nat.reduceSub, Int.reduceEq, Nat.reduceBEq, List.replicate, List.set, evB, tyA, d1, hg, hl, k0]; (repeat (with_reducible refine And.intro ?_ ?_; exact sdX)); (with_reducible first | refine awp_id ?_ | refine id_call ?_ | refine id_and ?_ | refine id_ex ?_ | refine id_all ?_ | refine id_nat ?_ | refine id_le ?_))))
    refine callVC_scal fnok31 hM rfl ?_
    simp (maxSteps := 4000000) only [↓reduceIte, Nat.reduceLT, Nat.reduceEqDiff, reduceCtorEq, Nat.reduceAdd, Nat.reduceMul, Int.reduceLE, Int.reduceLT, Int.reduceToNat, Nat.reduceLeDiff, Nat.reduceSub, Int.reduceEq, Nat.reduceBEq, List.replicate, List.set, evB, tyA]
    (repeat (with_reducible refine And.intro ?_ ?_; exact sdX))
    (repeat (first | refine awp_seq ?_ | refine awp_block ?_ | ((first | refine awp_skip ?_ | refine awp_exit ?_ | refine awp_reg ttok ?_ | (refine awp_draw ttok ?dr_calm ?_; (case dr_calm => decide +kernel)) | refine awp_condM ?_); simp (maxSteps := 4000000) only [↓reduceIte, Nat.reduceLT, Nat.reduceEqDiff, reduceCtorEq, Nat.reduceAdd, Nat.reduceMul, Int.reduceLE, Int.reduceLT, Int.reduceToNat, Nat.reduceLeDiff, Nat.reduceSub, Int.reduceEq, Nat.reduceBEq, List.replicate, List.set, evB, tyA]; (repeat (with_reducible refine And.intro ?_ ?_; exact sdX)); (with_reducible first | refine awp_id ?_ | refine id_call ?_ | refine id_and ?_ | refine id_ex ?_ | refine id_all ?_ | refine id_nat ?_ | refine id_le ?_))))
    exact awp_ret (ends_plain (.inr rfl) rfl evX)
theorem c_JMayBad (f f2 : Bool) (lb : List Lab) (l : List Pr) (hl : 0 < l.length) (hll : l.length ≤ 1000) (hp : (l.getD 0 noPr).p ≠ 0) : Contract Try.prog 39 [.sl f (prs l), .sl f2 (tri lb)] (bo false) [] := by
  refine contract_of_awp (rs := [4]) Try.func39 rfl Try.ntmps39 (by simp) rfl fun E => ?_
  have hg := prs_at hl
  have d1 : decide ((0 : Int) < (l.length : Int)) = true := by simp; omega
  generalize l.getD 0 noPr = x at *
  have k0 : (x.p != 0) = true := by simpa using hp
  (repeat (first | refine awp_seq ?_ | refine awp_block ?_ | ((first | refine awp_skip ?_ | refine awp_exit ?_ | refine awp_reg ttok ?_ | (refine awp_draw ttok ?dr_calm ?_; (case dr_calm => decide +kernel)) | refine awp_condM ?_); simp (maxSteps := 4000000) only [↓reduceIte, Nat.reduceLT, Nat.reduceEqDiff, reduceCtorEq, Nat.reduceAdd, Nat.reduceMul, Int.reduceLE, Int.reduceLT, Int.reduceToNat, Nat.reduceLeDiff, Nat.reduceSub, Int.reduceEq, Nat.reduceBEq, List.replicate, List.set, evB, tyA, prs_len]; (repeat (with_reducible refine And.intro ?_ ?_; exact sdX)); (with_reducible first | refine awp_id ?_ | refine id_call ?_ | refine id_and ?_ | refine id_ex ?_ | refine id_all ?_ | refine id_nat ?_ | refine id_le ?_))))
  refine awp_loop (X := Unit) (fun _ => mkS 28 [(0, .sl f (prs l)), (1, .sl f2 (tri lb)), (7, .sl f (prs l)), (8, i64 l.length), (9, i64 0)] []) (fun _ => True) (fun _ => 0) () trivial (mkS_le rfl ?_ trivial) ?_
  · simp (maxSteps := 4000000) only [↓reduceIte, Nat.reduceLT, Nat.reduceEqDiff, reduceCtorEq, Nat.reduceAdd, Nat.reduceMul, Int.reduceLE, Int.reduceLT, Int.reduceToNat, Nat.reduceLeDiff, Nat.reduceSub, Int.reduceEq, Nat.reduceBEq, List.replicate, List.set, evB, prs_len]
    try rfl
  · intro _ _
    (repeat (first | refine awp_seq ?_ | refine awp_block ?_ | ((first | refine awp_skip ?_ | refine awp_exit ?_ | refine awp_reg ttok ?_ | (refine awp_draw ttok ?dr_calm ?_; (case dr_calm => decide +kernel)) | refine awp_condM ?_); simp (maxSteps := 4000000) only [↓reduceIte, Nat.reduceLT, Nat.reduceEqDiff, reduceCtorEq, Nat.reduceAdd, Nat.reduceMul, Int.reduceLE, Int.reduceLT, Int.reduceToNat, Nat.reduceLeDiff, Nat.reduceSub, Int.reduceEq, Nat.reduceBEq, List.replicate, List.set, evB, tyA, d1, hg, prs_len, k0]; (repeat (with_reducible refine And.intro ?_ ?_; exact sdX)); (with_reducible first | refine awp_id ?_ | refine id_call ?_ | refine id_and ?_ | refine id_ex ?_ | refine id_all ?_ | refine id_nat ?_ | refine id_le ?_))))
    exact awp_ret (ends_plain (.inr rfl) rfl evX)
theorem c_JOfBad (f f2 : Bool) (lb : List Lab) (l : List Pr) (hM : Contract Try.prog 39 [.sl f (prs l), .sl f2 (tri lb)] (bo false) []) : Contract Try.prog 33 [.sl f (prs l), .sl f2 (tri lb)] (.tup [noDfa, i64 1]) [] := by
  refine contract_of_awpV ttok (rs := [.cell 4 31, .tmp 5]) Try.func33 rfl Try.ntmps33 (by simp) rfl fun E => ?_
  (repeat (first | refine awp_seq ?_ | refine awp_block ?_ | ((first | refine awp_skip ?_ | refine awp_exit ?_ | refine awp_reg ttok ?_ | (refine awp_draw ttok ?dr_calm ?_; (case dr_calm => decide +kernel)) | refine awp_condM ?_); simp (maxSteps := 4000000) only [↓reduceIte, Nat.reduceLT, Nat.reduceEqDiff, reduceCtorEq, Nat.reduceAdd, Nat.reduceMul, Int.reduceLE, Int.reduceLT, Int.reduceToNat, Nat.reduceLeDiff, Nat.reduceSub, Int.reduceEq, Nat.reduceBEq, List.replicate, List.set, evB, tyA]; (repeat (with_reducible refine And.intro ?_ ?_; exact sdX)); (with_reducible first | refine awp_id ?_ | refine id_call ?_ | refine id_and ?_ | refine id_ex ?_ | refine id_all ?_ | refine id_nat ?_ | refine id_le ?_))))
  refine callVC_scal fnok39 hM rfl ?_
  simp (maxSteps := 4000000) only [↓reduceIte, Nat.reduceLT, Nat.reduceEqDiff, reduceCtorEq, Nat.reduceAdd, Nat.reduceMul, Int.reduceLE, Int.reduceLT, Int.reduceToNat, Nat.reduceLeDiff, Nat.reduceSub, Int.reduceEq, Nat.reduceBEq, List.replicate, List.set, evB, tyA]
  (repeat (with_reducible refine And.intro ?_ ?_; exact sdX))
  (repeat (first | refine awp_seq ?_ | refine awp_block ?_ | ((first | refine awp_skip ?_ | refine awp_exit ?_ | refine awp_reg ttok ?_ | (refine awp_draw ttok ?dr_calm ?_; (case dr_calm => decide +kernel)) | refine awp_condM ?_); simp (maxSteps := 4000000) only [↓reduceIte, Nat.reduceLT, Nat.reduceEqDiff, reduceCtorEq, Nat.reduceAdd, Nat.reduceMul, Int.reduceLE, Int.reduceLT, Int.reduceToNat, Nat.reduceLeDiff, Nat.reduceSub, Int.reduceEq, Nat.reduceBEq, List.replicate, List.set, evB, tyA]; (repeat (with_reducible refine And.intro ?_ ?_; exact sdX)); (with_reducible first | refine awp_id ?_ | refine id_call ?_ | refine id_and ?_ | refine id_ex ?_ | refine id_all ?_ | refine id_nat ?_ | refine id_le ?_))))
  exact awp_ret (endsV [] (.inr rfl) (by simp (maxSteps := 4000000) only [↓reduceIte, Nat.reduceLT, Nat.reduceEqDiff, reduceCtorEq, Nat.reduceAdd, Nat.reduceMul, Int.reduceLE, Int.reduceLT, Int.reduceToNat, Nat.reduceLeDiff, Nat.reduceSub, Int.reduceEq, Nat.reduceBEq, List.replicate, List.set, evB, tyA, noDfa]; rfl) trivial evX)
def GoodL (lb : List Lab) (n : Nat) : Prop := ∀ k, k < lb.length → ∃ u v : Nat, u < n ∧ v < n ∧ u ≠ v ∧ (lb.getD k (0, 0, 0)).1 = (u : Int) ∧ (lb.getD k (0, 0, 0)).2.1 = (v : Int)
def stepJ (l : List Pr) (lb : List Lab) (s : List Int) (k : Int) : Option (List Int) :=
  if 0 ≤ k ∧ k < (lb.length : Int) then toJ l s (lb.getD k.toNat (0, 0, 0)).1.toNat (lb.getD k.toNat (0, 0, 0)).2.1.toNat k else none
def runJ (l : List Pr) (lb : List Lab) : List Int → List Int → Option (List Int)
  | s, [] => some s
  | s, k :: w => match stepJ l lb s k with
    | some t => runJ l lb t w
    | none => none
theorem stepJ_len {l : List Pr} {lb : List Lab} {s t : List Int} {k : Int} (h : stepJ l lb s k = some t) : t.length = s.length := by
  unfold stepJ at h
  split at h
  · unfold toJ at h
    split at h
    · simp only [Option.some.injEq] at h
      rw [← h]; simp
    · cases h
  · cases h
theorem c_JStep (f g h : Bool) (l : List Pr) (lb : List Lab) (s : List Int) (k : Int) (hl : l.length ≤ 1000) (hs : s.length = l.length) (hg : GoodL lb l.length) (hw : ∀ i, i < l.length → PWf (l.getD i noPr)) :
    Contract Try.prog 38 [.sl f (prs l), .sl g (tri lb), .sl h (ints s), i64 k] (toJD (stepJ l lb s k)) [] := by
  unfold stepJ
  by_cases hk : 0 ≤ k ∧ k < (lb.length : Int)
  · rw [if_pos hk]
    obtain ⟨n, rfl⟩ := Int.eq_ofNat_of_zero_le hk.1
    have hn : n < lb.length := by omega
    obtain ⟨u, v, hu, hv, huv, h1, h2⟩ := hg n hn
    rw [Int.toNat_natCast, h1, h2, Int.toNat_natCast, Int.toNat_natCast]
    exact c_JTo f g h l lb s n u v hl hn hs hu hv huv h1 h2 hw
  · rw [if_neg hk]
    exact c_JToBad f g h l lb s k (by omega)
def folJ (l : List Pr) (lb : List Lab) (w : List Int) : Bool := match runJ l lb (startsL l) w with
  | some s => endsJ l s l.length
  | none => false
set_option maxHeartbeats 32000000 in
theorem c_JFollows (f g h : Bool) (l : List Pr) (lb : List Lab) (w : List Int) (hl : l.length ≤ 1000) (hg : GoodL lb l.length) (hw : ∀ i, i < l.length → PWf (l.getD i noPr)) (hwl : w.length ≤ 100000) :
    Contract Try.prog 40 [.sl f (prs l), .sl g (tri lb), .sl h (ints w)] (bo (folJ l lb w)) [] := by
  refine contract_of_awp (rs := [6]) Try.func40 rfl Try.ntmps40 (by simp) rfl fun E => ?_
  have hF := c_JFirst f l hl
  have hsl := startsL_len l
  have hst := fun s hs k => c_JStep f g false l lb s k hl hs hg hw
  have hen := fun s hs => c_JEnds f false l s hl (Nat.le_of_eq (Eq.symm hs)) hw
  unfold folJ
  generalize startsL l = z at *
  have hzt : List.take z.length z = z := List.take_length
  (repeat (first | refine awp_seq ?_ | refine awp_block ?_ | ((first | refine awp_skip ?_ | refine awp_exit ?_ | refine awp_reg ttok ?_ | (refine awp_draw ttok ?dr_calm ?_; (case dr_calm => decide +kernel)) | refine awp_condM ?_); simp (maxSteps := 4000000) only [↓reduceIte, Nat.reduceLT, Nat.reduceEqDiff, reduceCtorEq, Nat.reduceAdd, Nat.reduceMul, Int.reduceLE, Int.reduceLT, Int.reduceToNat, Nat.reduceLeDiff, Nat.reduceSub, Int.reduceEq, Nat.reduceBEq, List.replicate, List.set, evB, tyA]; (repeat (with_reducible refine And.intro ?_ ?_; exact sdX)); (with_reducible first | refine awp_id ?_ | refine id_call ?_ | refine id_and ?_ | refine id_ex ?_ | refine id_all ?_ | refine id_nat ?_ | refine id_le ?_))))
  refine callVC_mk fnok35 hF rfl ?_
  simp (maxSteps := 4000000) only [↓reduceIte, Nat.reduceLT, Nat.reduceEqDiff, reduceCtorEq, Nat.reduceAdd, Nat.reduceMul, Int.reduceLE, Int.reduceLT, Int.reduceToNat, Nat.reduceLeDiff, Nat.reduceSub, Int.reduceEq, Nat.reduceBEq, List.replicate, List.set, evB, tyA]
  (repeat (with_reducible refine And.intro ?_ ?_; exact sdX))
  refine awp_pure 7 (d := .own 102001 0 z.length) (d' := .sl false (ints z)) (ids := [102001]) (p := z.length ≤ (ints z).length) evX (by simp (maxSteps := 4000000) only [↓reduceIte, Nat.reduceLT, Nat.reduceEqDiff, reduceCtorEq, Nat.reduceAdd, Nat.reduceMul, Int.reduceLE, Int.reduceLT, Int.reduceToNat, Nat.reduceLeDiff, Nat.reduceSub, Int.reduceEq, Nat.reduceBEq, List.replicate, List.set, evB, ints_take, hzt]) (by rw [ints_len]; exact Nat.le_refl _) ?_
  (repeat (first | refine awp_seq ?_ | refine awp_block ?_ | ((first | refine awp_skip ?_ | refine awp_exit ?_ | refine awp_reg ttok ?_ | (refine awp_draw ttok ?dr_calm ?_; (case dr_calm => decide +kernel)) | refine awp_condM ?_); simp (maxSteps := 4000000) only [↓reduceIte, Nat.reduceLT, Nat.reduceEqDiff, reduceCtorEq, Nat.reduceAdd, Nat.reduceMul, Int.reduceLE, Int.reduceLT, Int.reduceToNat, Nat.reduceLeDiff, Nat.reduceSub, Int.reduceEq, Nat.reduceBEq, List.replicate, List.set, evB, tyA, ints_len]; (repeat (with_reducible refine And.intro ?_ ?_; exact sdX)); (with_reducible first | refine awp_id ?_ | refine id_call ?_ | refine id_and ?_ | refine id_ex ?_ | refine id_all ?_ | refine id_nat ?_ | refine id_le ?_))))
  refine awp_loop (X := Nat × List Int) (fun x => mkS 33 [(0, .sl f (prs l)), (1, .sl g (tri lb)), (7, .sl false (ints x.2)), (13, .sl h (ints w)), (14, i64 w.length), (15, i64 x.1)] []) (fun x => x.1 ≤ w.length ∧ x.2.length = l.length ∧ runJ l lb x.2 (w.drop x.1) = runJ l lb z w) (fun x => w.length - x.1) (0, z) ⟨Nat.zero_le _, hsl, rfl⟩ (mkS_le rfl ?_ trivial) ?_
  · simp (maxSteps := 4000000) only [↓reduceIte, Nat.reduceLT, Nat.reduceEqDiff, reduceCtorEq, Nat.reduceAdd, Nat.reduceMul, Int.reduceLE, Int.reduceLT, Int.reduceToNat, Nat.reduceLeDiff, Nat.reduceSub, Int.reduceEq, Nat.reduceBEq, List.replicate, List.set, evB, ints_len]
    try rfl
  · rintro ⟨i, s⟩ ⟨hi, hs, hr⟩
    simp only at hi hs hr
    by_cases hlt : i < w.length
    · have d1 : decide ((i : Int) < (w.length : Int)) = true := by simpa using hlt
      have hwi : IntKind.i64.wrap ((i : Int) + 1) = ((i + 1 : Nat) : Int) := i64_in (by omega) (by omega)
      have gi := ints_get hlt
      have hd : w.drop i = w.getD i 0 :: w.drop (i + 1) := drop_getD hlt _
      rw [hd, runJ] at hr
      generalize w.getD i 0 = k at *
      have hc := hst s hs k
      have hln := fun t => stepJ_len (l := l) (lb := lb) (s := s) (t := t) (k := k)
      generalize stepJ l lb s k = o at *
      (repeat (first | refine awp_seq ?_ | refine awp_block ?_ | ((first | refine awp_skip ?_ | refine awp_exit ?_ | refine awp_reg ttok ?_ | (refine awp_draw ttok ?dr_calm ?_; (case dr_calm => decide +kernel)) | refine awp_condM ?_); simp (maxSteps := 4000000) only [↓reduceIte, Nat.reduceLT, Nat.reduceEqDiff, reduceCtorEq, Nat.reduceAdd, Nat.reduceMul, Int.reduceLE, Int.reduceLT, Int.reduceToNat, Nat.reduceLeDiff, Nat.reduceSub, Int.reduceEq, Nat.reduceBEq, List.replicate, List.set, evB, tyA, d1, gi, ints_len]; (repeat (with_reducible refine And.intro ?_ ?_; exact sdX)); (with_reducible first | refine awp_id ?_ | refine id_call ?_ | refine id_and ?_ | refine id_ex ?_ | refine id_all ?_ | refine id_nat ?_ | refine id_le ?_))))
      cases o with
      | none =>
        simp only at hr
        refine callVC_mk fnok38 hc rfl ?_
        simp (maxSteps := 4000000) only [↓reduceIte, Nat.reduceLT, Nat.reduceEqDiff, reduceCtorEq, Nat.reduceAdd, Nat.reduceMul, Int.reduceLE, Int.reduceLT, Int.reduceToNat, Nat.reduceLeDiff, Nat.reduceSub, Int.reduceEq, Nat.reduceBEq, List.replicate, List.set, evB, tyA, toJD]
        (repeat (with_reducible refine And.intro ?_ ?_; exact sdX))
        (repeat (first | refine awp_seq ?_ | refine awp_block ?_ | ((first | refine awp_skip ?_ | refine awp_exit ?_ | refine awp_reg ttok ?_ | (refine awp_draw ttok ?dr_calm ?_; (case dr_calm => decide +kernel)) | refine awp_condM ?_); simp (maxSteps := 4000000) only [↓reduceIte, Nat.reduceLT, Nat.reduceEqDiff, reduceCtorEq, Nat.reduceAdd, Nat.reduceMul, Int.reduceLE, Int.reduceLT, Int.reduceToNat, Nat.reduceLeDiff, Nat.reduceSub, Int.reduceEq, Nat.reduceBEq, List.replicate, List.set, evB, tyA]; (repeat (with_reducible refine And.intro ?_ ?_; exact sdX)); (with_reducible first | refine awp_id ?_ | refine id_call ?_ | refine id_and ?_ | refine id_ex ?_ | refine id_all ?_ | refine id_nat ?_ | refine id_le ?_))))
        rw [← hr]
        exact awp_ret (ends_plain (.inr rfl) rfl evX)
      | some t =>
        simp only at hr
        have hlt2 := hln t rfl
        refine callVC_mk fnok38 hc rfl ?_
        simp (maxSteps := 4000000) only [↓reduceIte, Nat.reduceLT, Nat.reduceEqDiff, reduceCtorEq, Nat.reduceAdd, Nat.reduceMul, Int.reduceLE, Int.reduceLT, Int.reduceToNat, Nat.reduceLeDiff, Nat.reduceSub, Int.reduceEq, Nat.reduceBEq, List.replicate, List.set, evB, tyA, toJD]
        (repeat (with_reducible refine And.intro ?_ ?_; exact sdX))
        (repeat (first | refine awp_seq ?_ | refine awp_block ?_ | ((first | refine awp_skip ?_ | refine awp_exit ?_ | refine awp_reg ttok ?_ | (refine awp_draw ttok ?dr_calm ?_; (case dr_calm => decide +kernel)) | refine awp_condM ?_); simp (maxSteps := 4000000) only [↓reduceIte, Nat.reduceLT, Nat.reduceEqDiff, reduceCtorEq, Nat.reduceAdd, Nat.reduceMul, Int.reduceLE, Int.reduceLT, Int.reduceToNat, Nat.reduceLeDiff, Nat.reduceSub, Int.reduceEq, Nat.reduceBEq, List.replicate, List.set, evB, tyA, hwi]; (repeat (with_reducible refine And.intro ?_ ?_; exact sdX)); (with_reducible first | refine awp_id ?_ | refine id_call ?_ | refine id_and ?_ | refine id_ex ?_ | refine id_all ?_ | refine id_nat ?_ | refine id_le ?_))))
        refine ⟨(i + 1, t), ⟨by simp only; omega, by simp only; omega, hr⟩, by simp only; omega, mkS_le rfl ?_ trivial⟩
        simp (maxSteps := 4000000) only [↓reduceIte, Nat.reduceLT, Nat.reduceEqDiff, reduceCtorEq, Nat.reduceAdd, Nat.reduceMul, Int.reduceLE, Int.reduceLT, Int.reduceToNat, Nat.reduceLeDiff, Nat.reduceSub, Int.reduceEq, Nat.reduceBEq, List.replicate, List.set, evB]
    · have d1 : decide ((i : Int) < (w.length : Int)) = false := by simpa using hlt
      rw [List.drop_of_length_le (by omega), runJ] at hr
      have hE := hen s hs
      rw [← hr]
      (repeat (first | refine awp_seq ?_ | refine awp_block ?_ | ((first | refine awp_skip ?_ | refine awp_exit ?_ | refine awp_reg ttok ?_ | (refine awp_draw ttok ?dr_calm ?_; (case dr_calm => decide +kernel)) | refine awp_condM ?_); simp (maxSteps := 4000000) only [↓reduceIte, Nat.reduceLT, Nat.reduceEqDiff, reduceCtorEq, Nat.reduceAdd, Nat.reduceMul, Int.reduceLE, Int.reduceLT, Int.reduceToNat, Nat.reduceLeDiff, Nat.reduceSub, Int.reduceEq, Nat.reduceBEq, List.replicate, List.set, evB, tyA, d1]; (repeat (with_reducible refine And.intro ?_ ?_; exact sdX)); (with_reducible first | refine awp_id ?_ | refine id_call ?_ | refine id_and ?_ | refine id_ex ?_ | refine id_all ?_ | refine id_nat ?_ | refine id_le ?_))))
      refine callVC_scal fnok36 hE rfl ?_
      simp (maxSteps := 4000000) only [↓reduceIte, Nat.reduceLT, Nat.reduceEqDiff, reduceCtorEq, Nat.reduceAdd, Nat.reduceMul, Int.reduceLE, Int.reduceLT, Int.reduceToNat, Nat.reduceLeDiff, Nat.reduceSub, Int.reduceEq, Nat.reduceBEq, List.replicate, List.set, evB, tyA]
      (repeat (with_reducible refine And.intro ?_ ?_; exact sdX))
      (repeat (first | refine awp_seq ?_ | refine awp_block ?_ | ((first | refine awp_skip ?_ | refine awp_exit ?_ | refine awp_reg ttok ?_ | (refine awp_draw ttok ?dr_calm ?_; (case dr_calm => decide +kernel)) | refine awp_condM ?_); simp (maxSteps := 4000000) only [↓reduceIte, Nat.reduceLT, Nat.reduceEqDiff, reduceCtorEq, Nat.reduceAdd, Nat.reduceMul, Int.reduceLE, Int.reduceLT, Int.reduceToNat, Nat.reduceLeDiff, Nat.reduceSub, Int.reduceEq, Nat.reduceBEq, List.replicate, List.set, evB, tyA]; (repeat (with_reducible refine And.intro ?_ ?_; exact sdX)); (with_reducible first | refine awp_id ?_ | refine id_call ?_ | refine id_and ?_ | refine id_ex ?_ | refine id_all ?_ | refine id_nat ?_ | refine id_le ?_))))
      exact awp_ret (ends_plain (.inr rfl) rfl evX)
abbrev StepT := List Int → Nat → Option (List Int)
def addT (q : List (List Int)) : Option (List Int) → List (List Int)
  | none => q
  | some t => addQ q t
def jRow (T : StepT) (S : List Int) (q : List (List Int)) : Nat → List (List Int)
  | 0 => q
  | k + 1 => addT (jRow T S q k) (T S k)
def jQ (T : StepT) (L : Nat) (z : List Int) : Nat → List (List Int)
  | 0 => [z]
  | i + 1 => if i < (jQ T L z i).length then jRow T ((jQ T L z i).getD i []) (jQ T L z i) L else jQ T L z i
def jNum (T : StepT) (q : List (List Int)) (S : List Int) (k : Nat) : Int := match T S k with
  | none => -1
  | some t => ((q.idxOf t : Nat) : Int)
def jNums (T : StepT) (q : List (List Int)) (S : List Int) (L : Nat) : List Int := (List.range L).map fun k => jNum T q S k
def jNx (T : StepT) (L : Nat) (q : List (List Int)) : List (List Int) := q.map fun S => jNums T q S L
theorem addT_pre (q : List (List Int)) (o : Option (List Int)) : ∃ u, addT q o = q ++ u := by
  cases o with
  | none => exact ⟨[], by simp [addT]⟩
  | some t => exact addQ_pre q t
theorem jRow_pre (T : StepT) (S : List Int) (q : List (List Int)) (k : Nat) : ∀ j, ∃ u, jRow T S q (k + j) = jRow T S q k ++ u
  | 0 => ⟨[], by simp⟩
  | j + 1 => by
    obtain ⟨u, hu⟩ := jRow_pre T S q k j
    obtain ⟨v, hv⟩ := addT_pre (jRow T S q (k + j)) (T S (k + j))
    exact ⟨u ++ v, by rw [← Nat.add_assoc, jRow, hv, hu, List.append_assoc]⟩
theorem jQ_pre (T : StepT) (L : Nat) (z : List Int) (i : Nat) : ∀ j, ∃ u, jQ T L z (i + j) = jQ T L z i ++ u
  | 0 => ⟨[], by simp⟩
  | j + 1 => by
    obtain ⟨u, hu⟩ := jQ_pre T L z i j
    have : ∃ v, jQ T L z (i + j + 1) = jQ T L z (i + j) ++ v := by
      rw [jQ]
      split
      · have := jRow_pre T ((jQ T L z (i + j)).getD (i + j) []) (jQ T L z (i + j)) 0 L
        rw [Nat.zero_add] at this
        exact this
      · exact ⟨[], by simp⟩
    obtain ⟨v, hv⟩ := this
    exact ⟨u ++ v, by rw [← Nat.add_assoc, hv, hu, List.append_assoc]⟩
theorem jQ_stop {T : StepT} {L : Nat} {z : List Int} {i : Nat} (hi : ¬ i < (jQ T L z i).length) : ∀ j, jQ T L z (i + j) = jQ T L z i
  | 0 => rfl
  | j + 1 => by
    have ih := jQ_stop hi j
    rw [← Nat.add_assoc, jQ, ih, if_neg (by omega)]
theorem addT_all {P : List Int → Prop} {q : List (List Int)} {o : Option (List Int)} (h : ∀ x ∈ q, P x) (ho : ∀ t, o = some t → P t) : ∀ x ∈ addT q o, P x := by
  cases o with
  | none => exact h
  | some t =>
    simp only [addT, addQ]
    split
    · exact h
    · intro x hx
      rcases List.mem_append.1 hx with g | g
      · exact h x g
      · rw [List.mem_singleton] at g; subst g; exact ho _ rfl
theorem jRow_all {T : StepT} {P : List Int → Prop} {S : List Int} {q : List (List Int)} (hT : ∀ k t, T S k = some t → P t) (h : ∀ x ∈ q, P x) : ∀ k, ∀ x ∈ jRow T S q k, P x
  | 0 => h
  | k + 1 => addT_all (jRow_all hT h k) (hT k)
theorem jQ_all {T : StepT} {L : Nat} {z : List Int} {P : List Int → Prop} (hz : P z) (hT : ∀ S k t, P S → T S k = some t → P t) : ∀ i, ∀ x ∈ jQ T L z i, P x
  | 0 => by simpa [jQ] using hz
  | i + 1 => by
    rw [jQ]
    have ih := jQ_all (L := L) hz hT i
    split
    · rename_i hi
      exact jRow_all (fun k t => hT _ k t (ih _ (getD_mem hi []))) ih L
    · exact ih
structure JA (T : StepT) (L : Nat) (z : List Int) (n : Nat) (Q : List (List Int)) : Prop where
  hB : ∀ i, (jQ T L z i).length ≤ n
  hQ : Q = jQ T L z n
section
variable {T : StepT} {L n : Nat} {z : List Int} {Q : List (List Int)}
theorem JA.end_ (h : JA T L z n Q) {i : Nat} (hs : ¬ i < (jQ T L z i).length) (hi : i ≤ n) : jQ T L z i = Q := by
  have := jQ_stop hs (n - i)
  rw [show i + (n - i) = n by omega] at this
  rw [h.hQ, this]
theorem JA.pre (h : JA T L z n Q) (i : Nat) : ∃ u, Q = jQ T L z i ++ u := by
  by_cases hi : i ≤ n
  · obtain ⟨u, hu⟩ := jQ_pre T L z i (n - i)
    rw [show i + (n - i) = n by omega] at hu
    exact ⟨u, by rw [h.hQ, hu]⟩
  · have hb := h.hB n
    have := jQ_stop (T := T) (L := L) (z := z) (i := n) (by omega) (i - n)
    rw [show n + (i - n) = i by omega] at this
    exact ⟨[], by rw [this, h.hQ, List.append_nil]⟩
theorem JA.lenQ (h : JA T L z n Q) : Q.length ≤ n := by rw [h.hQ]; exact h.hB n
theorem JA.lt (h : JA T L z n Q) {i : Nat} (hi : i < Q.length) : i < (jQ T L z i).length := by
  by_cases g : i < (jQ T L z i).length
  · exact g
  · have hk := h.lenQ
    have := h.end_ g (by omega)
    rw [this] at g; omega
theorem JA.at_ (h : JA T L z n Q) {i : Nat} (hi : i < Q.length) : (jQ T L z i).getD i [] = Q.getD i [] := by
  obtain ⟨u, hu⟩ := h.pre i
  rw [hu, getD_app_lt (h.lt hi)]
theorem JA.next (h : JA T L z n Q) {i : Nat} (hi : i < Q.length) : jQ T L z (i + 1) = jRow T (Q.getD i []) (jQ T L z i) L := by
  rw [jQ, if_pos (h.lt hi), h.at_ hi]
theorem JA.row (h : JA T L z n Q) {i : Nat} (hi : i < Q.length) {j : Nat} (hj : j ≤ L) : ∃ u, Q = jRow T (Q.getD i []) (jQ T L z i) j ++ u := by
  obtain ⟨u, hu⟩ := h.pre (i + 1)
  rw [h.next hi] at hu
  obtain ⟨v, hv⟩ := jRow_pre T (Q.getD i []) (jQ T L z i) j (L - j)
  rw [show j + (L - j) = L by omega] at hv
  rw [hv, List.append_assoc] at hu
  exact ⟨_, hu⟩
theorem JA.ltQ (h : JA T L z n Q) {i : Nat} (hi : i < (jQ T L z i).length) : i < Q.length := by
  obtain ⟨u, hu⟩ := h.pre i
  rw [hu, List.length_append]; omega
theorem JA.has (h : JA T L z n Q) {i k : Nat} (hi : i < Q.length) (hk : k < L) {t : List Int} (ht : T (Q.getD i []) k = some t) : t ∈ jRow T (Q.getD i []) (jQ T L z i) (k + 1) := by
  rw [jRow, ht]
  exact addQ_has _ _
theorem JA.num (h : JA T L z n Q) {i k : Nat} (hi : i < Q.length) (hk : k < L) {t : List Int} (ht : T (Q.getD i []) k = some t) : jNum T Q (Q.getD i []) k = (((jRow T (Q.getD i []) (jQ T L z i) (k + 1)).idxOf t : Nat) : Int) := by
  obtain ⟨u, hu⟩ := h.row hi (j := k + 1) hk
  unfold jNum
  rw [ht]
  have hm := h.has hi hk ht
  generalize Q.getD i [] = S at *
  simp only
  rw [hu, List.idxOf_append, if_pos hm]
end
theorem idxP_of (l : List (List Int)) (t : List Int) : ∀ k : Nat, idxP (fun x => x == t) l k = if l.contains t = true then ((k + l.idxOf t : Nat) : Int) else -1 := by
  induction l with
  | nil => intro k; rfl
  | cons x l ih =>
    intro k
    rw [idxP, ih (k + 1), List.idxOf_cons, List.contains_cons]
    by_cases e : x = t
    · subst e; simp
    · have e1 : (x == t) = false := by simpa using e
      have e2 : (t == x) = false := by simpa using fun q : t = x => e q.symm
      rw [e1, e2]
      simp only [Bool.false_or, cond_false, Bool.false_eq_true, if_false]
      split
      · simp only [Int.natCast_inj]; omega
      · rfl
def jLay (g : Nat → Int) (L j : Nat) : List Int := (List.range j).map g ++ List.replicate (L - j) 0
theorem jLay_len (g : Nat → Int) {L j : Nat} (h : j ≤ L) : (jLay g L j).length = L := by simp [jLay]; omega
theorem jLay_zero (g : Nat → Int) (L : Nat) : jLay g L 0 = List.replicate L 0 := by simp [jLay]
theorem jLay_all (g : Nat → Int) (L : Nat) : jLay g L L = (List.range L).map g := by simp [jLay]
theorem jLay_set (g : Nat → Int) {L j : Nat} (h : j < L) : (jLay g L j).set j (g j) = jLay g L (j + 1) := by
  unfold jLay
  rw [List.set_append_right _ _ (by simp), List.length_map, List.length_range, Nat.sub_self, List.range_succ, List.map_append, List.append_assoc]
  congr 1
  rw [show L - j = (L - (j + 1)) + 1 by omega, List.replicate_succ]
  rfl
end Go.Proofs.Ytcpipfodedfpkaa
