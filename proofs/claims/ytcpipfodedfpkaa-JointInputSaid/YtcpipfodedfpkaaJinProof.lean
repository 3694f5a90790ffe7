import Derived.Test.YtcpipfodedfpkaaJq
import Derived.Test.YtcpipfodedfpkaaRn
import Derived.Test.YtcpipfodedfpkaaDt
import Derived.Test.YtcpipfodedfpkaaRows
import Derived.Test.YtcpipfodedfpkaaClo
set_option linter.unusedSimpArgs false
set_option linter.unusedVariables false
namespace Go.Proofs.Ytcpipfodedfpkaa
open Go.Ab
theorem ext_getI {A B : List Int} (hl : A.length = B.length) (h : ∀ j, j < A.length → A.getD j 0 = B.getD j 0) : A = B := by
  apply List.ext_getElem hl
  intro j h1 h2
  have := h j h1
  simpa [List.getD, List.getElem?_eq_getElem h1, List.getElem?_eq_getElem h2] using this
set_option maxHeartbeats 16000000 in
theorem c_EqIG (f g : Bool) (A B : List Int) (hA : A.length ≤ 100000) (hB : B.length ≤ 100000) : Contract Try.prog 50 [.sl f (ints A), .sl g (ints B)] (bo (A == B)) [] := by
  refine contract_of_awp (rs := [4]) Try.func50 rfl Try.ntmps50 (by simp) rfl fun E => ?_
  by_cases hl : A.length = B.length
  · have k0 : ((A.length : Int) != (B.length : Int)) = false := by simp [hl]
    (repeat (first | refine awp_seq ?_ | refine awp_block ?_ | ((first | refine awp_skip ?_ | refine awp_exit ?_ | refine awp_reg ttok ?_ | (refine awp_draw ttok ?dr_calm ?_; (case dr_calm => decide +kernel)) | refine awp_condM ?_); simp (maxSteps := 4000000) only [↓reduceIte, Nat.reduceLT, Nat.reduceEqDiff, reduceCtorEq, Nat.reduceAdd, Nat.reduceMul, Int.reduceLE, Int.reduceLT, Int.reduceToNat, Nat.reduceLeDiff, Nat.reduceSub, Int.reduceEq, Nat.reduceBEq, List.replicate, List.set, evB, tyA, ints_len, k0]; (repeat (with_reducible refine And.intro ?_ ?_; exact sdX)); (with_reducible first | refine awp_id ?_ | refine id_call ?_ | refine id_and ?_ | refine id_ex ?_ | refine id_all ?_ | refine id_nat ?_ | refine id_le ?_))))
    refine awp_loop (X := Nat) (fun i => mkS 26 [(0, .sl f (ints A)), (1, .sl g (ints B)), (12, i64 A.length), (13, i64 i)] []) (fun i => i ≤ A.length ∧ ∀ j, j < i → A.getD j 0 = B.getD j 0) (fun i => A.length - i) 0 ⟨Nat.zero_le _, fun j hj => by omega⟩ (mkS_le rfl ?_ trivial) ?_
    · simp (maxSteps := 4000000) only [↓reduceIte, Nat.reduceLT, Nat.reduceEqDiff, reduceCtorEq, Nat.reduceAdd, Nat.reduceMul, Int.reduceLE, Int.reduceLT, Int.reduceToNat, Nat.reduceLeDiff, Nat.reduceSub, Int.reduceEq, Nat.reduceBEq, List.replicate, List.set, evB, ints_len]
      try rfl
    · rintro i ⟨hi, hn⟩
      by_cases hlt : i < A.length
      · have d1 : decide ((i : Int) < (A.length : Int)) = true := by simpa using hlt
        have hwi : IntKind.i64.wrap ((i : Int) + 1) = ((i + 1 : Nat) : Int) := i64_in (by omega) (by omega)
        have gi := ints_get hlt
        have gj := ints_get (l := B) (i := i) (by omega)
        by_cases he : A.getD i 0 = B.getD i 0
        · have hnn : ∀ j, j < i + 1 → A.getD j 0 = B.getD j 0 := fun j hj => by
            rcases Nat.lt_or_ge j i with q | q
            · exact hn j q
            · have : j = i := by omega
              rw [this]; exact he
          rw [he] at gi
          generalize B.getD i 0 = y at *
          have k1 : (y != y) = false := by simp
          (repeat (first | refine awp_seq ?_ | refine awp_block ?_ | ((first | refine awp_skip ?_ | refine awp_exit ?_ | refine awp_reg ttok ?_ | (refine awp_draw ttok ?dr_calm ?_; (case dr_calm => decide +kernel)) | refine awp_condM ?_); simp (maxSteps := 4000000) only [↓reduceIte, Nat.reduceLT, Nat.reduceEqDiff, reduceCtorEq, Nat.reduceAdd, Nat.reduceMul, Int.reduceLE, Int.reduceLT, Int.reduceToNat, Nat.reduceLeDiff, Nat.reduceSub, Int.reduceEq, Nat.reduceBEq, List.replicate, List.set, evB, tyA, d1, gi, gj, ints_len, k1, hwi]; (repeat (with_reducible refine And.intro ?_ ?_; exact sdX)); (with_reducible first | refine awp_id ?_ | refine id_call ?_ | refine id_and ?_ | refine id_ex ?_ | refine id_all ?_ | refine id_nat ?_ | refine id_le ?_))))
          refine ⟨i + 1, ⟨by omega, hnn⟩, by omega, mkS_le rfl ?_ trivial⟩
          simp (maxSteps := 4000000) only [↓reduceIte, Nat.reduceLT, Nat.reduceEqDiff, reduceCtorEq, Nat.reduceAdd, Nat.reduceMul, Int.reduceLE, Int.reduceLT, Int.reduceToNat, Nat.reduceLeDiff, Nat.reduceSub, Int.reduceEq, Nat.reduceBEq, List.replicate, List.set, evB]
        · have hne : (A == B) = false := by
            rw [beq_eq_false_iff_ne]; rintro rfl; exact he rfl
          generalize A.getD i 0 = x at *
          generalize B.getD i 0 = y at *
          have k1 : (x != y) = true := by simpa using he
          (repeat (first | refine awp_seq ?_ | refine awp_block ?_ | ((first | refine awp_skip ?_ | refine awp_exit ?_ | refine awp_reg ttok ?_ | (refine awp_draw ttok ?dr_calm ?_; (case dr_calm => decide +kernel)) | refine awp_condM ?_); simp (maxSteps := 4000000) only [↓reduceIte, Nat.reduceLT, Nat.reduceEqDiff, reduceCtorEq, Nat.reduceAdd, Nat.reduceMul, Int.reduceLE, Int.reduceLT, Int.reduceToNat, Nat.reduceLeDiff, Nat.reduceSub, Int.reduceEq, Nat.reduceBEq, List.replicate, List.set, evB, tyA, d1, gi, gj, ints_len, k1]; (repeat (with_reducible refine And.intro ?_ ?_; exact sdX)); (with_reducible first | refine awp_id ?_ | refine id_call ?_ | refine id_and ?_ | refine id_ex ?_ | refine id_all ?_ | refine id_nat ?_ | refine id_le ?_))))
          exact awp_ret (ends_plain (.inr rfl) rfl (by simp (maxSteps := 4000000) only [↓reduceIte, Nat.reduceLT, Nat.reduceEqDiff, reduceCtorEq, Nat.reduceAdd, Nat.reduceMul, Int.reduceLE, Int.reduceLT, Int.reduceToNat, Nat.reduceLeDiff, Nat.reduceSub, Int.reduceEq, Nat.reduceBEq, List.replicate, List.set, evB, hne]))
      · have d1 : decide ((i : Int) < (A.length : Int)) = false := by simpa using hlt
        have heq : (A == B) = true := by
          rw [beq_iff_eq]; exact ext_getI hl fun j hj => hn j (by omega)
        (repeat (first | refine awp_seq ?_ | refine awp_block ?_ | ((first | refine awp_skip ?_ | refine awp_exit ?_ | refine awp_reg ttok ?_ | (refine awp_draw ttok ?dr_calm ?_; (case dr_calm => decide +kernel)) | refine awp_condM ?_); simp (maxSteps := 4000000) only [↓reduceIte, Nat.reduceLT, Nat.reduceEqDiff, reduceCtorEq, Nat.reduceAdd, Nat.reduceMul, Int.reduceLE, Int.reduceLT, Int.reduceToNat, Nat.reduceLeDiff, Nat.reduceSub, Int.reduceEq, Nat.reduceBEq, List.replicate, List.set, evB, tyA, d1]; (repeat (with_reducible refine And.intro ?_ ?_; exact sdX)); (with_reducible first | refine awp_id ?_ | refine id_call ?_ | refine id_and ?_ | refine id_ex ?_ | refine id_all ?_ | refine id_nat ?_ | refine id_le ?_))))
        exact awp_ret (ends_plain (.inr rfl) rfl (by simp (maxSteps := 4000000) only [↓reduceIte, Nat.reduceLT, Nat.reduceEqDiff, reduceCtorEq, Nat.reduceAdd, Nat.reduceMul, Int.reduceLE, Int.reduceLT, Int.reduceToNat, Nat.reduceLeDiff, Nat.reduceSub, Int.reduceEq, Nat.reduceBEq, List.replicate, List.set, evB, heq]))
  · have k0 : ((A.length : Int) != (B.length : Int)) = true := by simp; omega
    have hne : (A == B) = false := by
      rw [beq_eq_false_iff_ne]; rintro rfl; exact hl rfl
    (repeat (first | refine awp_seq ?_ | refine awp_block ?_ | ((first | refine awp_skip ?_ | refine awp_exit ?_ | refine awp_reg ttok ?_ | (refine awp_draw ttok ?dr_calm ?_; (case dr_calm => decide +kernel)) | refine awp_condM ?_); simp (maxSteps := 4000000) only [↓reduceIte, Nat.reduceLT, Nat.reduceEqDiff, reduceCtorEq, Nat.reduceAdd, Nat.reduceMul, Int.reduceLE, Int.reduceLT, Int.reduceToNat, Nat.reduceLeDiff, Nat.reduceSub, Int.reduceEq, Nat.reduceBEq, List.replicate, List.set, evB, tyA, ints_len, k0]; (repeat (with_reducible refine And.intro ?_ ?_; exact sdX)); (with_reducible first | refine awp_id ?_ | refine id_call ?_ | refine id_and ?_ | refine id_ex ?_ | refine id_all ?_ | refine id_nat ?_ | refine id_le ?_))))
    exact awp_ret (ends_plain (.inr rfl) rfl (by simp (maxSteps := 4000000) only [↓reduceIte, Nat.reduceLT, Nat.reduceEqDiff, reduceCtorEq, Nat.reduceAdd, Nat.reduceMul, Int.reduceLE, Int.reduceLT, Int.reduceToNat, Nat.reduceLeDiff, Nat.reduceSub, Int.reduceEq, Nat.reduceBEq, List.replicate, List.set, evB, hne]))
theorem c_JEndsNil (f g : Bool) (l : List Pr) (hl : 0 < l.length) (hll : l.length ≤ 1000) :
    Contract Try.prog 36 [.sl f (prs l), .sl g []] (bo false) [] := by
  refine contract_of_awp (rs := [4]) Try.func36 rfl Try.ntmps36 (by simp) rfl fun E => ?_
  have hg := prs_at hl
  have d1 : decide ((0 : Int) < (l.length : Int)) = true := by simp; omega
  have d2 : decide ((0 : Int) ≥ ((0 : Nat) : Int)) = true := rfl
  (repeat (first | refine awp_seq ?_ | refine awp_block ?_ | ((first | refine awp_skip ?_ | refine awp_exit ?_ | refine awp_reg ttok ?_ | (refine awp_draw ttok ?dr_calm ?_; (case dr_calm => decide +kernel)) | refine awp_condM ?_); simp (maxSteps := 4000000) only [↓reduceIte, Nat.reduceLT, Nat.reduceEqDiff, reduceCtorEq, Nat.reduceAdd, Nat.reduceMul, Int.reduceLE, Int.reduceLT, Int.reduceToNat, Nat.reduceLeDiff, Nat.reduceSub, Int.reduceEq, Nat.reduceBEq, List.replicate, List.set, evB, tyA, prs_len]; (repeat (with_reducible refine And.intro ?_ ?_; exact sdX)); (with_reducible first | refine awp_id ?_ | refine id_call ?_ | refine id_and ?_ | refine id_ex ?_ | refine id_all ?_ | refine id_nat ?_ | refine id_le ?_))))
  refine awp_loop (X := Unit) (fun _ => mkS 28 [(1, .sl g []), (7, .sl f (prs l)), (8, i64 l.length), (9, i64 0)] []) (fun _ => True) (fun _ => 0) () trivial (mkS_le rfl ?_ trivial) ?_
  · simp (maxSteps := 4000000) only [↓reduceIte, Nat.reduceLT, Nat.reduceEqDiff, reduceCtorEq, Nat.reduceAdd, Nat.reduceMul, Int.reduceLE, Int.reduceLT, Int.reduceToNat, Nat.reduceLeDiff, Nat.reduceSub, Int.reduceEq, Nat.reduceBEq, List.replicate, List.set, evB, prs_len]
    try rfl
  · intro _ _
    (repeat (first | refine awp_seq ?_ | refine awp_block ?_ | ((first | refine awp_skip ?_ | refine awp_exit ?_ | refine awp_reg ttok ?_ | (refine awp_draw ttok ?dr_calm ?_; (case dr_calm => decide +kernel)) | refine awp_condM ?_); simp (maxSteps := 4000000) only [↓reduceIte, Nat.reduceLT, Nat.reduceEqDiff, reduceCtorEq, Nat.reduceAdd, Nat.reduceMul, Int.reduceLE, Int.reduceLT, Int.reduceToNat, Nat.reduceLeDiff, Nat.reduceSub, Int.reduceEq, Nat.reduceBEq, List.replicate, List.set, evB, tyA, d1, hg, prs_len]; (repeat (with_reducible refine And.intro ?_ ?_; exact sdX)); (with_reducible first | refine awp_id ?_ | refine id_call ?_ | refine id_and ?_ | refine id_ex ?_ | refine id_all ?_ | refine id_nat ?_ | refine id_le ?_))))
    refine awp_drawG ttok ((0, none) :: (1, none) :: (2, none) :: (3, none) :: (4, none) :: (5, none) :: (6, none) :: (7, none) :: (8, none) :: (9, none) :: (10, some []) :: (11, none) :: (12, none) :: []) ([]) ([]) (by decide +kernel) fun O hO => ?_; simp only [OpsAre, Nat.reduceAdd, and_true, List.toList_toArray, List.append_eq, List.cons_append, List.nil_append] at hO; simp (maxSteps := 4000000) only [↓reduceIte, Nat.reduceLT, Nat.reduceEqDiff, reduceCtorEq, Nat.reduceAdd, Nat.reduceMul, Int.reduceLE, Int.reduceLT, Int.reduceToNat, Nat.reduceLeDiff, Nat.reduceSub, Int.reduceEq, Nat.reduceBEq, List.replicate, List.set, evB, tyA, hO, d2]; (repeat (with_reducible refine And.intro ?_ ?_; exact sdX))
    (repeat (first | refine awp_seq ?_ | refine awp_block ?_ | ((first | refine awp_skip ?_ | refine awp_exit ?_ | refine awp_reg ttok ?_ | (refine awp_draw ttok ?dr_calm ?_; (case dr_calm => decide +kernel)) | refine awp_condM ?_); simp (maxSteps := 4000000) only [↓reduceIte, Nat.reduceLT, Nat.reduceEqDiff, reduceCtorEq, Nat.reduceAdd, Nat.reduceMul, Int.reduceLE, Int.reduceLT, Int.reduceToNat, Nat.reduceLeDiff, Nat.reduceSub, Int.reduceEq, Nat.reduceBEq, List.replicate, List.set, evB, tyA]; (repeat (with_reducible refine And.intro ?_ ?_; exact sdX)); (with_reducible first | refine awp_id ?_ | refine id_call ?_ | refine id_and ?_ | refine id_ex ?_ | refine id_all ?_ | refine id_nat ?_ | refine id_le ?_))))
    exact awp_ret (ends_plain (.inr rfl) rfl evX)
theorem c_JOf1 (x t : List Int) (f : Bool) (hx : x.length ≤ 100000) (ht : t.length ≤ 100000) : Contract Try.prog 65 [.sl false (ints x), .ref [.sl f (ints t)] 0] (bo (x == t)) [] := by
  refine contract_of_awp (rs := [3]) Try.func65 rfl Try.ntmps65 (by simp) rfl fun E => ?_
  (repeat (first | refine awp_seq ?_ | refine awp_block ?_ | ((first | refine awp_skip ?_ | refine awp_exit ?_ | refine awp_reg ttok ?_ | (refine awp_draw ttok ?dr_calm ?_; (case dr_calm => decide +kernel)) | refine awp_condM ?_); simp (maxSteps := 4000000) only [↓reduceIte, Nat.reduceLT, Nat.reduceEqDiff, reduceCtorEq, Nat.reduceAdd, Nat.reduceMul, Int.reduceLE, Int.reduceLT, Int.reduceToNat, Nat.reduceLeDiff, Nat.reduceSub, Int.reduceEq, Nat.reduceBEq, List.replicate, List.set, evB, tyA]; (repeat (with_reducible refine And.intro ?_ ?_; exact sdX)); (with_reducible first | refine awp_id ?_ | refine id_call ?_ | refine id_and ?_ | refine id_ex ?_ | refine id_all ?_ | refine id_nat ?_ | refine id_le ?_))))
  refine callVC_scal fnok50 (c_EqIG false f x t hx ht) rfl ?_
  simp (maxSteps := 4000000) only [↓reduceIte, Nat.reduceLT, Nat.reduceEqDiff, reduceCtorEq, Nat.reduceAdd, Nat.reduceMul, Int.reduceLE, Int.reduceLT, Int.reduceToNat, Nat.reduceLeDiff, Nat.reduceSub, Int.reduceEq, Nat.reduceBEq, List.replicate, List.set, evB, tyA]
  (repeat (with_reducible refine And.intro ?_ ?_; exact sdX))
  (repeat (first | refine awp_seq ?_ | refine awp_block ?_ | ((first | refine awp_skip ?_ | refine awp_exit ?_ | refine awp_reg ttok ?_ | (refine awp_draw ttok ?dr_calm ?_; (case dr_calm => decide +kernel)) | refine awp_condM ?_); simp (maxSteps := 4000000) only [↓reduceIte, Nat.reduceLT, Nat.reduceEqDiff, reduceCtorEq, Nat.reduceAdd, Nat.reduceMul, Int.reduceLE, Int.reduceLT, Int.reduceToNat, Nat.reduceLeDiff, Nat.reduceSub, Int.reduceEq, Nat.reduceBEq, List.replicate, List.set, evB, tyA]; (repeat (with_reducible refine And.intro ?_ ?_; exact sdX)); (with_reducible first | refine awp_id ?_ | refine id_call ?_ | refine id_and ?_ | refine id_ex ?_ | refine id_all ?_ | refine id_nat ?_ | refine id_le ?_))))
  exact awp_ret (ends_plain (.inr rfl) rfl evX)
def stepN (l : List Pr) (lb : List Lab) : StepT := fun S k => stepJ l lb S (k : Int)
def jFin (l : List Pr) (Q : List (List Int)) : List Bool := Q.map fun S => endsJ l S l.length
set_option maxRecDepth 20000 in
set_option maxHeartbeats 64000000 in
theorem c_JOf (f f2 : Bool) (l : List Pr) (lb : List Lab) (hl : l.length ≤ 1000) (hlb : lb.length ≤ 1000) (hg : GoodL lb l.length) (hw : ∀ i, i < l.length → PWf (l.getD i noPr))
    (hM : Contract Try.prog 39 [.sl f (prs l), .sl f2 (tri lb)] (bo true) []) {Q : List (List Int)} (hJ : JA (stepN l lb) lb.length (startsL l) 2000 Q) :
    Contract Try.prog 33 [.sl f (prs l), .sl f2 (tri lb)] (.tup [dfaD lb.length 0 (jFin l Q) (jNx (stepN l lb) lb.length Q), i64 0]) [] := by
  refine contract_of_awpV ttok (rs := [.cell 4 31, .tmp 5]) Try.func33 rfl Try.ntmps33 (by simp) rfl fun E => ?_
  have hF := c_JFirst f l hl
  have hsl := startsL_len l
  have hst := fun s hs k => c_JStep f f2 false l lb s k hl hs hg hw
  have hen := fun s hs => c_JEnds f false l s hl (Nat.le_of_eq (Eq.symm hs)) hw
  have hall := jQ_all (T := stepN l lb) (L := lb.length) (z := startsL l) (P := fun S => S.length = l.length) hsl (fun S k t hS h => by rw [stepJ_len h]; exact hS)
  have hlQ := hJ.lenQ
  have hB := hJ.hB
  have hend := fun {i : Nat} => hJ.end_ (i := i)
  have hltQ := fun {i : Nat} => hJ.ltQ (i := i)
  have hnext := fun {i : Nat} => hJ.next (i := i)
  have hat := fun {i : Nat} => hJ.at_ (i := i)
  have hnum := fun {i k : Nat} => hJ.num (i := i) (k := k)
  have hq0 : jQ (stepN l lb) lb.length (startsL l) 0 = [startsL l] := rfl
  have hsN : ∀ S k, stepN l lb S k = stepJ l lb S (k : Int) := fun _ _ => rfl
  generalize hTE : stepN l lb = T at *
  generalize hLE : lb.length = L at *
  generalize hzE : startsL l = z at *
  have htr1 : iis [z] = [[.sl false (ints z)]] := rfl
  have zi2 : List.replicate L (List.map ofAtom (Value.int IntKind.i64 0).cells.toList) = ints (List.replicate L 0) := by simp only [ints, List.map_replicate]; rfl
  have zi : ∀ n : Nat, List.replicate (n : Int).toNat [D.v (Value.int IntKind.i64 0)] = ints (List.replicate n 0) := fun n => by simp [ints]
  have hzt : List.take z.length z = z := List.take_length
  (repeat (first | refine awp_seq ?_ | refine awp_block ?_ | ((first | refine awp_skip ?_ | refine awp_exit ?_ | refine awp_reg ttok ?_ | (refine awp_draw ttok ?dr_calm ?_; (case dr_calm => decide +kernel)) | refine awp_condM ?_); simp (maxSteps := 4000000) only [↓reduceIte, Nat.reduceLT, Nat.reduceEqDiff, reduceCtorEq, Nat.reduceAdd, Nat.reduceMul, Int.reduceLE, Int.reduceLT, Int.reduceToNat, Nat.reduceLeDiff, Nat.reduceSub, Int.reduceEq, Nat.reduceBEq, List.replicate, List.set, evB, tyA]; (repeat (with_reducible refine And.intro ?_ ?_; exact sdX)); (with_reducible first | refine awp_id ?_ | refine id_call ?_ | refine id_and ?_ | refine id_ex ?_ | refine id_all ?_ | refine id_nat ?_ | refine id_le ?_))))
  refine callVC_scal fnok39 hM rfl ?_
  simp (maxSteps := 4000000) only [↓reduceIte, Nat.reduceLT, Nat.reduceEqDiff, reduceCtorEq, Nat.reduceAdd, Nat.reduceMul, Int.reduceLE, Int.reduceLT, Int.reduceToNat, Nat.reduceLeDiff, Nat.reduceSub, Int.reduceEq, Nat.reduceBEq, List.replicate, List.set, evB, tyA]
  (repeat (with_reducible refine And.intro ?_ ?_; exact sdX))
  (repeat (first | refine awp_seq ?_ | refine awp_block ?_ | ((first | refine awp_skip ?_ | refine awp_exit ?_ | refine awp_reg ttok ?_ | (refine awp_draw ttok ?dr_calm ?_; (case dr_calm => decide +kernel)) | refine awp_condM ?_); simp (maxSteps := 4000000) only [↓reduceIte, Nat.reduceLT, Nat.reduceEqDiff, reduceCtorEq, Nat.reduceAdd, Nat.reduceMul, Int.reduceLE, Int.reduceLT, Int.reduceToNat, Nat.reduceLeDiff, Nat.reduceSub, Int.reduceEq, Nat.reduceBEq, List.replicate, List.set, evB, tyA]; (repeat (with_reducible refine And.intro ?_ ?_; exact sdX)); (with_reducible first | refine awp_id ?_ | refine id_call ?_ | refine id_and ?_ | refine id_ex ?_ | refine id_all ?_ | refine id_nat ?_ | refine id_le ?_))))
  refine callVC_mk fnok35 hF rfl ?_
  simp (maxSteps := 4000000) only [↓reduceIte, Nat.reduceLT, Nat.reduceEqDiff, reduceCtorEq, Nat.reduceAdd, Nat.reduceMul, Int.reduceLE, Int.reduceLT, Int.reduceToNat, Nat.reduceLeDiff, Nat.reduceSub, Int.reduceEq, Nat.reduceBEq, List.replicate, List.set, evB, tyA, ints_len, ints_take, hzt]
  (repeat (with_reducible refine And.intro ?_ ?_; exact sdX))
  (repeat (first | refine awp_seq ?_ | refine awp_block ?_ | ((first | refine awp_skip ?_ | refine awp_exit ?_ | refine awp_reg ttok ?_ | (refine awp_draw ttok ?dr_calm ?_; (case dr_calm => decide +kernel)) | refine awp_condM ?_); simp (maxSteps := 4000000) only [↓reduceIte, Nat.reduceLT, Nat.reduceEqDiff, reduceCtorEq, Nat.reduceAdd, Nat.reduceMul, Int.reduceLE, Int.reduceLT, Int.reduceToNat, Nat.reduceLeDiff, Nat.reduceSub, Int.reduceEq, Nat.reduceBEq, List.replicate, List.set, evB, tyA, ints_len, ints_take, hzt, tri_len, hLE]; (repeat (with_reducible refine And.intro ?_ ?_; exact sdX)); (with_reducible first | refine awp_id ?_ | refine id_call ?_ | refine id_and ?_ | refine id_ex ?_ | refine id_all ?_ | refine id_nat ?_ | refine id_le ?_))))
  refine awp_own_nilC 5003 0 2 80001 1 (by decide) (by simp (maxSteps := 4000000) only [↓reduceIte, Nat.reduceLT, Nat.reduceEqDiff, reduceCtorEq, Nat.reduceAdd, Nat.reduceMul, Int.reduceLE, Int.reduceLT, Int.reduceToNat, Nat.reduceLeDiff, Nat.reduceSub, Int.reduceEq, Nat.reduceBEq, List.replicate, List.set, evB]; rfl) rfl rfl rfl ?_
  refine awp_own_nilC 5003 0 3 80002 1 (by decide) (by simp (maxSteps := 4000000) only [↓reduceIte, Nat.reduceLT, Nat.reduceEqDiff, reduceCtorEq, Nat.reduceAdd, Nat.reduceMul, Int.reduceLE, Int.reduceLT, Int.reduceToNat, Nat.reduceLeDiff, Nat.reduceSub, Int.reduceEq, Nat.reduceBEq, List.replicate, List.set, evB]; rfl) rfl rfl rfl ?_
  refine awp_loop (X := Nat) (fun i => mkS 97 [(0, .sl f (prs l)), (1, .sl f2 (tri lb)), (4, .ptr 1000 0 0), (6, .own 4002 0 (jQ T L z i).length), (7, .ptr 5003 0 0), (8, i64 i)]
      [(1000, { sz := 4, rows := [[i64 0, i64 0, .sl true [], .sl true []]], flat := false }), (4002, { sz := 1, rows := iis (jQ T L z i) }), (5003, { sz := 4, rows := [[i64 L, i64 0, .own 80001 0 i, .own 80002 0 i]], flat := false }), (80001, { sz := 1, rows := bos ((jFin l Q).take i) }), (80002, { sz := 1, rows := iis ((jNx T L Q).take i) })])
    (fun i => i ≤ (jQ T L z i).length) (fun i => 3000 - i) 0 (Nat.zero_le _) (mkS_le rfl ?_ ?_) ?_
  · simp (maxSteps := 4000000) only [↓reduceIte, Nat.reduceLT, Nat.reduceEqDiff, reduceCtorEq, Nat.reduceAdd, Nat.reduceMul, Int.reduceLE, Int.reduceLT, Int.reduceToNat, Nat.reduceLeDiff, Nat.reduceSub, Int.reduceEq, Nat.reduceBEq, List.replicate, List.set, evB, hq0]
    try rfl
  · simp (maxSteps := 4000000) only [↓reduceIte, Nat.reduceLT, Nat.reduceEqDiff, reduceCtorEq, Nat.reduceAdd, Nat.reduceMul, Int.reduceLE, Int.reduceLT, Int.reduceToNat, Nat.reduceLeDiff, Nat.reduceSub, Int.reduceEq, Nat.reduceBEq, List.replicate, List.set, evB, hq0, htr1]
    exact ⟨rfl, rfl⟩
  · intro i hi
    have hik := hB i
    by_cases hlt : i < (jQ T L z i).length
    · have d1 : decide ((i : Int) < ((jQ T L z i).length : Int)) = true := by simpa using hlt
      have hiQ := hltQ hlt
      have hnx := hnext hiQ
      have hnum := fun {k : Nat} => hnum (k := k) hiQ
      have hati := hat hiQ
      have hgq := iis_get hlt
      rw [hati] at hgq
      have hSl := hall i (Q.getD i []) (by rw [← hati]; exact getD_mem hlt [])
      have hrB := fun {j : Nat} => hJ.row hiQ (j := j)
      have hEn := hen _ hSl
      have hst := fun k => hst _ hSl k
      have hNs : (jNx T L Q).take (i + 1) = (jNx T L Q).take i ++ [jNums T Q (Q.getD i []) L] := by
        rw [take_snoc (by unfold jNx; rw [List.length_map]; omega) []]
        unfold jNx
        rw [getD_mapD _ _ [] hiQ]
      have hFs : (jFin l Q).take (i + 1) = (jFin l Q).take i ++ [endsJ l (Q.getD i []) l.length] := by
        rw [take_snoc (by unfold jFin; rw [List.length_map]; omega) false]
        unfold jFin
        rw [getD_mapD _ _ [] hiQ]
      have hNt : ((jNx T L Q).take i).length = i := by rw [List.length_take]; unfold jNx; rw [List.length_map]; omega
      have hFt : ((jFin l Q).take i).length = i := by rw [List.length_take]; unfold jFin; rw [List.length_map]; omega
      have hSt := fun k t (h : T (Q.getD i []) k = some t) => stepJ_len (l := l) (lb := lb) (k := (k : Int)) (by rw [← hsN]; exact h)
      have hqall := hall i
      generalize hqE : jQ T L z i = q at *
      generalize hSE : Q.getD i [] = S at *
      (repeat (first | refine awp_seq ?_ | refine awp_block ?_ | ((first | refine awp_skip ?_ | refine awp_exit ?_ | refine awp_reg ttok ?_ | (refine awp_draw ttok ?dr_calm ?_; (case dr_calm => decide +kernel)) | refine awp_condM ?_); simp (maxSteps := 4000000) only [↓reduceIte, Nat.reduceLT, Nat.reduceEqDiff, reduceCtorEq, Nat.reduceAdd, Nat.reduceMul, Int.reduceLE, Int.reduceLT, Int.reduceToNat, Nat.reduceLeDiff, Nat.reduceSub, Int.reduceEq, Nat.reduceBEq, List.replicate, List.set, evB, tyA, d1, iis_len, zi, zi2, ints_len, tri_len, hLE]; (repeat (with_reducible refine And.intro ?_ ?_; exact sdX)); (with_reducible first | refine awp_id ?_ | refine id_call ?_ | refine id_and ?_ | refine id_ex ?_ | refine id_all ?_ | refine id_nat ?_ | refine id_le ?_))))
      refine awp_loop (X := Nat) (fun j => mkS 97 [(0, .sl f (prs l)), (1, .sl f2 (tri lb)), (4, .ptr 1000 0 0), (6, .own 4002 0 (jRow T S q j).length), (7, .ptr 5003 0 0), (8, i64 i), (9, .own 9002 0 L), (34, i64 L), (35, i64 j)]
          [(1000, { sz := 4, rows := [[i64 0, i64 0, .sl true [], .sl true []]], flat := false }), (4002, { sz := 1, rows := iis (jRow T S q j) }), (5003, { sz := 4, rows := [[i64 L, i64 0, .own 80001 0 i, .own 80002 0 i]], flat := false }), (80001, { sz := 1, rows := bos ((jFin l Q).take i) }), (80002, { sz := 1, rows := iis ((jNx T L Q).take i) }), (9002, { sz := 1, rows := ints (jLay (jNum T Q S) L j) })])
        (fun j => j ≤ L) (fun j => L - j) 0 (Nat.zero_le _) (mkS_le rfl ?_ ?_) ?_
      · simp (maxSteps := 4000000) only [↓reduceIte, Nat.reduceLT, Nat.reduceEqDiff, reduceCtorEq, Nat.reduceAdd, Nat.reduceMul, Int.reduceLE, Int.reduceLT, Int.reduceToNat, Nat.reduceLeDiff, Nat.reduceSub, Int.reduceEq, Nat.reduceBEq, List.replicate, List.set, evB, jRow]
        try rfl
      · simp (maxSteps := 4000000) only [↓reduceIte, Nat.reduceLT, Nat.reduceEqDiff, reduceCtorEq, Nat.reduceAdd, Nat.reduceMul, Int.reduceLE, Int.reduceLT, Int.reduceToNat, Nat.reduceLeDiff, Nat.reduceSub, Int.reduceEq, Nat.reduceBEq, List.replicate, List.set, evB, jRow, jLay_zero, zi2, zi]
        try rfl
      · intro j hj
        have hll := jLay_len (jNum T Q S) hj
        obtain ⟨v, hv⟩ := hrB hj
        have hlr : (jRow T S q j).length ≤ 2000 := by rw [hv, List.length_append] at hlQ; omega
        obtain ⟨v0, hv0⟩ := jRow_pre T S q 0 j
        rw [Nat.zero_add] at hv0
        have hgp : (iis (jRow T S q j)).getD i [] = [.sl false (ints S)] := by
          rw [hv0, ← iis_app, getD_app_lt (by rw [iis_len]; exact hlt)]
          exact hgq
        have hip : i < (jRow T S q j).length := by
          rw [hv0, List.length_append]
          have : (jRow T S q 0).length = q.length := rfl
          omega
        by_cases hjlt : j < L
        · have d2 : decide ((j : Int) < (L : Int)) = true := by simpa using hjlt
          have hwj : IntKind.i64.wrap ((j : Int) + 1) = ((j + 1 : Nat) : Int) := i64_in (by omega) (by omega)
          have hc := hst (j : Int)
          rw [← hsN] at hc
          have hrs : jRow T S q (j + 1) = addT (jRow T S q j) (T S j) := rfl
          have hset := jLay_set (jNum T Q S) hjlt
          have hpl : ∀ x ∈ jRow T S q j, x.length = l.length := jRow_all (P := fun x => x.length = l.length) (fun k t h => by rw [hSt k t h]; exact hSl) hqall j
          have hnj := fun t => hnum hjlt (t := t)
          rw [hrs] at hnj
          generalize jLay (jNum T Q S) L j = ro at *
          generalize jRow T S q j = p at *
          have hs1 : List.set (ints ro) j [D.v (Value.int IntKind.i64 (-1))] = ints (ro.set j (-1)) := by simp [ints]
          have hs2 : ∀ x y : Int, List.set (ints (ro.set j x)) j [D.v (Value.int IntKind.i64 y)] = ints (ro.set j y) := fun x y => by simp [ints]
          have hs3 : ∀ x : Int, (ints (ro.set j x)).getD j [] = [i64 x] := fun x => by rw [ints_get (by simp; omega)]; simp [List.getD, hll, hjlt]
          have hro := ints_get (l := ro) (i := j) (by omega)
          have hrl : ∀ x : Int, (ro.set j x).length = L := fun x => by rw [List.length_set]; exact hll
          have hpt : List.take p.length p = p := List.take_of_length_le (Nat.le_refl _)
          have hr2 : ∀ z : List Int, (∀ row ∈ [[D.sl false (ints z)]], row.length = 1) = True := fun z => by simp
          (repeat (first | refine awp_seq ?_ | refine awp_block ?_ | ((first | refine awp_skip ?_ | refine awp_exit ?_ | refine awp_reg ttok ?_ | (refine awp_draw ttok ?dr_calm ?_; (case dr_calm => decide +kernel)) | refine awp_condM ?_); simp (maxSteps := 4000000) only [↓reduceIte, Nat.reduceLT, Nat.reduceEqDiff, reduceCtorEq, Nat.reduceAdd, Nat.reduceMul, Int.reduceLE, Int.reduceLT, Int.reduceToNat, Nat.reduceLeDiff, Nat.reduceSub, Int.reduceEq, Nat.reduceBEq, List.replicate, List.set, evB, tyA, d2, hgp, ints_len, iis_len, hll, hro, hs1]; (repeat (with_reducible refine And.intro ?_ ?_; exact sdX)); (with_reducible first | refine awp_id ?_ | refine id_call ?_ | refine id_and ?_ | refine id_ex ?_ | refine id_all ?_ | refine id_nat ?_ | refine id_le ?_))))
          refine callVC_mk fnok38 hc rfl ?_
          cases hto : T S j with
          | none =>
            have hjn : jNum T Q S j = -1 := by unfold jNum; rw [hto]
            rw [hjn] at hset
            rw [hto, addT] at hrs
            simp (maxSteps := 4000000) only [↓reduceIte, Nat.reduceLT, Nat.reduceEqDiff, reduceCtorEq, Nat.reduceAdd, Nat.reduceMul, Int.reduceLE, Int.reduceLT, Int.reduceToNat, Nat.reduceLeDiff, Nat.reduceSub, Int.reduceEq, Nat.reduceBEq, List.replicate, List.set, evB, tyA, toJD]
            (repeat (with_reducible refine And.intro ?_ ?_; exact sdX))
            (repeat (first | refine awp_seq ?_ | refine awp_block ?_ | ((first | refine awp_skip ?_ | refine awp_exit ?_ | refine awp_reg ttok ?_ | (refine awp_draw ttok ?dr_calm ?_; (case dr_calm => decide +kernel)) | refine awp_condM ?_); simp (maxSteps := 4000000) only [↓reduceIte, Nat.reduceLT, Nat.reduceEqDiff, reduceCtorEq, Nat.reduceAdd, Nat.reduceMul, Int.reduceLE, Int.reduceLT, Int.reduceToNat, Nat.reduceLeDiff, Nat.reduceSub, Int.reduceEq, Nat.reduceBEq, List.replicate, List.set, evB, tyA, hwj]; (repeat (with_reducible refine And.intro ?_ ?_; exact sdX)); (with_reducible first | refine awp_id ?_ | refine id_call ?_ | refine id_and ?_ | refine id_ex ?_ | refine id_all ?_ | refine id_nat ?_ | refine id_le ?_))))
            refine ⟨j + 1, by omega, by omega, mkS_le rfl ?_ ?_⟩
            · simp (maxSteps := 4000000) only [↓reduceIte, Nat.reduceLT, Nat.reduceEqDiff, reduceCtorEq, Nat.reduceAdd, Nat.reduceMul, Int.reduceLE, Int.reduceLT, Int.reduceToNat, Nat.reduceLeDiff, Nat.reduceSub, Int.reduceEq, Nat.reduceBEq, List.replicate, List.set, evB, hrs]
            · simp (maxSteps := 4000000) only [↓reduceIte, Nat.reduceLT, Nat.reduceEqDiff, reduceCtorEq, Nat.reduceAdd, Nat.reduceMul, Int.reduceLE, Int.reduceLT, Int.reduceToNat, Nat.reduceLeDiff, Nat.reduceSub, Int.reduceEq, Nat.reduceBEq, List.replicate, List.set, evB, hrs, hset, hs1]
          | some t =>
            have htl := hSt j t hto
            have hjn := hnj t hto
            rw [hto] at hjn hrs
            rw [hjn] at hset
            have hIx := c_IdxII 65 [.sl false (ints t)] fnok65 (fun x => x == t) false p (by omega) (fun x hx => c_JOf1 x t false (by have := hpl x hx; omega) (by omega))
            rw [idxP_of, Nat.zero_add, ← (show List.take p.length (iis p) = iis p by rw [iis_take, hpt])] at hIx
            simp (maxSteps := 4000000) only [↓reduceIte, Nat.reduceLT, Nat.reduceEqDiff, reduceCtorEq, Nat.reduceAdd, Nat.reduceMul, Int.reduceLE, Int.reduceLT, Int.reduceToNat, Nat.reduceLeDiff, Nat.reduceSub, Int.reduceEq, Nat.reduceBEq, List.replicate, List.set, evB, tyA, toJD]
            (repeat (with_reducible refine And.intro ?_ ?_; exact sdX))
            (repeat (first | refine awp_seq ?_ | refine awp_block ?_ | ((first | refine awp_skip ?_ | refine awp_exit ?_ | refine awp_reg ttok ?_ | (refine awp_draw ttok ?dr_calm ?_; (case dr_calm => decide +kernel)) | refine awp_condM ?_); simp (maxSteps := 4000000) only [↓reduceIte, Nat.reduceLT, Nat.reduceEqDiff, reduceCtorEq, Nat.reduceAdd, Nat.reduceMul, Int.reduceLE, Int.reduceLT, Int.reduceToNat, Nat.reduceLeDiff, Nat.reduceSub, Int.reduceEq, Nat.reduceBEq, List.replicate, List.set, evB, tyA]; (repeat (with_reducible refine And.intro ?_ ?_; exact sdX)); (with_reducible first | refine awp_id ?_ | refine id_call ?_ | refine id_and ?_ | refine id_ex ?_ | refine id_all ?_ | refine id_nat ?_ | refine id_le ?_))))
            refine callVC_scal fnok64 hIx rfl ?_ (hp := ⟨Nat.le_of_eq (iis_len p).symm, ⟨⟨⟨⟨trivial, trivial⟩, trivial⟩, Nat.zero_lt_one⟩, trivial⟩, trivial⟩)
            cases hcn : p.contains t
            · have hadd : addT p (some t) = p ++ [t] := by simp only [addT, addQ]; rw [hcn, if_neg (by simp)]
              have hix : (p ++ [t]).idxOf t = p.length := by
                rw [List.idxOf_append, if_neg (by simpa using hcn)]
                simp
              rw [hadd] at hrs hset
              rw [hix] at hset
              have k1 : decide ((-1 : Int) < 0) = true := rfl
              simp only [Bool.false_eq_true, if_false]
              simp (maxSteps := 4000000) only [↓reduceIte, Nat.reduceLT, Nat.reduceEqDiff, reduceCtorEq, Nat.reduceAdd, Nat.reduceMul, Int.reduceLE, Int.reduceLT, Int.reduceToNat, Nat.reduceLeDiff, Nat.reduceSub, Int.reduceEq, Nat.reduceBEq, List.replicate, List.set, evB, tyA, hs2, ints_len, hrl]
              (repeat (with_reducible refine And.intro ?_ ?_; exact sdX))
              (repeat (first | refine awp_seq ?_ | refine awp_block ?_ | ((first | refine awp_skip ?_ | refine awp_exit ?_ | refine awp_reg ttok ?_ | (refine awp_draw ttok ?dr_calm ?_; (case dr_calm => decide +kernel)) | refine awp_condM ?_); simp (maxSteps := 4000000) only [↓reduceIte, Nat.reduceLT, Nat.reduceEqDiff, reduceCtorEq, Nat.reduceAdd, Nat.reduceMul, Int.reduceLE, Int.reduceLT, Int.reduceToNat, Nat.reduceLeDiff, Nat.reduceSub, Int.reduceEq, Nat.reduceBEq, List.replicate, List.set, evB, tyA, hs2, hs3, ints_len, hrl, k1, iis_len, iis_take, hpt, hr2, hwj]; (repeat (with_reducible refine And.intro ?_ ?_; exact sdX)); (with_reducible first | refine awp_id ?_ | refine id_call ?_ | refine id_and ?_ | refine id_ex ?_ | refine id_all ?_ | refine id_nat ?_ | refine id_le ?_))))
              refine ⟨j + 1, by omega, by omega, mkS_le rfl ?_ ?_⟩
              · simp (maxSteps := 4000000) only [↓reduceIte, Nat.reduceLT, Nat.reduceEqDiff, reduceCtorEq, Nat.reduceAdd, Nat.reduceMul, Int.reduceLE, Int.reduceLT, Int.reduceToNat, Nat.reduceLeDiff, Nat.reduceSub, Int.reduceEq, Nat.reduceBEq, List.replicate, List.set, evB, hrs, List.length_append]
                try rfl
              · simp (maxSteps := 4000000) only [↓reduceIte, Nat.reduceLT, Nat.reduceEqDiff, reduceCtorEq, Nat.reduceAdd, Nat.reduceMul, Int.reduceLE, Int.reduceLT, Int.reduceToNat, Nat.reduceLeDiff, Nat.reduceSub, Int.reduceEq, Nat.reduceBEq, List.replicate, List.set, evB, hrs, List.length_append, hset, hs2, iis_take, hpt, iis_one, iis_app]
            · have hadd : addT p (some t) = p := by simp only [addT, addQ]; rw [hcn, if_pos rfl]
              rw [hadd] at hrs hset
              have k1 : decide (((p.idxOf t : Nat) : Int) < 0) = false := by simp
              simp only [if_true]
              simp (maxSteps := 4000000) only [↓reduceIte, Nat.reduceLT, Nat.reduceEqDiff, reduceCtorEq, Nat.reduceAdd, Nat.reduceMul, Int.reduceLE, Int.reduceLT, Int.reduceToNat, Nat.reduceLeDiff, Nat.reduceSub, Int.reduceEq, Nat.reduceBEq, List.replicate, List.set, evB, tyA, hs2, ints_len, hrl]
              (repeat (with_reducible refine And.intro ?_ ?_; exact sdX))
              (repeat (first | refine awp_seq ?_ | refine awp_block ?_ | ((first | refine awp_skip ?_ | refine awp_exit ?_ | refine awp_reg ttok ?_ | (refine awp_draw ttok ?dr_calm ?_; (case dr_calm => decide +kernel)) | refine awp_condM ?_); simp (maxSteps := 4000000) only [↓reduceIte, Nat.reduceLT, Nat.reduceEqDiff, reduceCtorEq, Nat.reduceAdd, Nat.reduceMul, Int.reduceLE, Int.reduceLT, Int.reduceToNat, Nat.reduceLeDiff, Nat.reduceSub, Int.reduceEq, Nat.reduceBEq, List.replicate, List.set, evB, tyA, hs2, hs3, ints_len, hrl, k1, hwj]; (repeat (with_reducible refine And.intro ?_ ?_; exact sdX)); (with_reducible first | refine awp_id ?_ | refine id_call ?_ | refine id_and ?_ | refine id_ex ?_ | refine id_all ?_ | refine id_nat ?_ | refine id_le ?_))))
              refine ⟨j + 1, by omega, by omega, mkS_le rfl ?_ ?_⟩
              · simp (maxSteps := 4000000) only [↓reduceIte, Nat.reduceLT, Nat.reduceEqDiff, reduceCtorEq, Nat.reduceAdd, Nat.reduceMul, Int.reduceLE, Int.reduceLT, Int.reduceToNat, Nat.reduceLeDiff, Nat.reduceSub, Int.reduceEq, Nat.reduceBEq, List.replicate, List.set, evB, hrs]
                try rfl
              · simp (maxSteps := 4000000) only [↓reduceIte, Nat.reduceLT, Nat.reduceEqDiff, reduceCtorEq, Nat.reduceAdd, Nat.reduceMul, Int.reduceLE, Int.reduceLT, Int.reduceToNat, Nat.reduceLeDiff, Nat.reduceSub, Int.reduceEq, Nat.reduceBEq, List.replicate, List.set, evB, hrs, hset, hs2]
        · have d2 : decide ((j : Int) < (L : Int)) = false := by simpa using hjlt
          obtain rfl : L = j := by omega
          rw [← hnx] at hlr hgp hip ⊢
          rw [jLay_all] at hll ⊢
          have hjn : (List.range L).map (jNum T Q S) = jNums T Q S L := rfl
          rw [hjn] at hll ⊢
          obtain ⟨p, hpE⟩ : ∃ p, jQ T L z (i + 1) = p := ⟨_, rfl⟩
          rw [hpE] at hlr hgp hip ⊢
          have e2k : decide ((p.length : Int) > 2000) = false := by simp; omega
          have hwi : IntKind.i64.wrap ((i : Int) + 1) = ((i + 1 : Nat) : Int) := i64_in (by omega) (by omega)
          generalize jNums T Q S L = row at *
          have hft : List.take L row = row := List.take_of_length_le (by omega)
          have hr2 : ∀ z : List Int, (∀ row ∈ [[D.sl false (ints z)]], row.length = 1) = True := fun z => by simp
          have hr3 : ∀ z : Bool, (∀ row ∈ [[bo z]], row.length = 1) = True := fun z => by simp
          refine awp_pure 9 (d := .own 9002 0 L) evX (by simp (maxSteps := 4000000) only [↓reduceIte, Nat.reduceLT, Nat.reduceEqDiff, reduceCtorEq, Nat.reduceAdd, Nat.reduceMul, Int.reduceLE, Int.reduceLT, Int.reduceToNat, Nat.reduceLeDiff, Nat.reduceSub, Int.reduceEq, Nat.reduceBEq, List.replicate, List.set, evB]; rfl) (by simp (maxSteps := 4000000) only [↓reduceIte, Nat.reduceLT, Nat.reduceEqDiff, reduceCtorEq, Nat.reduceAdd, Nat.reduceMul, Int.reduceLE, Int.reduceLT, Int.reduceToNat, Nat.reduceLeDiff, Nat.reduceSub, Int.reduceEq, Nat.reduceBEq, List.replicate, List.set, evB, ints_len, hll]) ?_
          (repeat (first | refine awp_seq ?_ | refine awp_block ?_ | ((first | refine awp_skip ?_ | refine awp_exit ?_ | refine awp_reg ttok ?_ | (refine awp_draw ttok ?dr_calm ?_; (case dr_calm => decide +kernel)) | refine awp_condM ?_); simp (maxSteps := 4000000) only [↓reduceIte, Nat.reduceLT, Nat.reduceEqDiff, reduceCtorEq, Nat.reduceAdd, Nat.reduceMul, Int.reduceLE, Int.reduceLT, Int.reduceToNat, Nat.reduceLeDiff, Nat.reduceSub, Int.reduceEq, Nat.reduceBEq, List.replicate, List.set, evB, tyA, d2, e2k, iis_len, ints_take, hft, iis_take, iis_row, hNt, hr2]; (repeat (with_reducible refine And.intro ?_ ?_; exact sdX)); (with_reducible first | refine awp_id ?_ | refine id_call ?_ | refine id_and ?_ | refine id_ex ?_ | refine id_all ?_ | refine id_nat ?_ | refine id_le ?_))))
          refine awp_drawG ttok ((0, none) :: (1, none) :: (2, none) :: (3, none) :: (4, none) :: (5, none) :: (6, none) :: (7, some [0, 1]) :: (8, some [0, 1]) :: (9, some []) :: (10, none) :: (11, some []) :: []) ([]) ([]) (by decide +kernel) fun O hO => ?_; simp only [OpsAre, Nat.reduceAdd, and_true, List.toList_toArray, List.append_eq, List.cons_append, List.nil_append] at hO; simp (maxSteps := 4000000) only [↓reduceIte, Nat.reduceLT, Nat.reduceEqDiff, reduceCtorEq, Nat.reduceAdd, Nat.reduceMul, Int.reduceLE, Int.reduceLT, Int.reduceToNat, Nat.reduceLeDiff, Nat.reduceSub, Int.reduceEq, Nat.reduceBEq, List.replicate, List.set, evB, tyA, hO, hgp, iis_len, bos_len, bos_take, hFt, hr3]; (repeat (with_reducible refine And.intro ?_ ?_; exact sdX))
          refine callVC_scal fnok36 hEn rfl ?_
          simp (maxSteps := 4000000) only [↓reduceIte, Nat.reduceLT, Nat.reduceEqDiff, reduceCtorEq, Nat.reduceAdd, Nat.reduceMul, Int.reduceLE, Int.reduceLT, Int.reduceToNat, Nat.reduceLeDiff, Nat.reduceSub, Int.reduceEq, Nat.reduceBEq, List.replicate, List.set, evB, tyA, hO, bos_len, bos_take, hFt, hr3]
          (repeat (with_reducible refine And.intro ?_ ?_; exact sdX))
          (repeat (first | refine awp_seq ?_ | refine awp_block ?_ | ((first | refine awp_skip ?_ | refine awp_exit ?_ | refine awp_reg ttok ?_ | (refine awp_draw ttok ?dr_calm ?_; (case dr_calm => decide +kernel)) | refine awp_condM ?_); simp (maxSteps := 4000000) only [↓reduceIte, Nat.reduceLT, Nat.reduceEqDiff, reduceCtorEq, Nat.reduceAdd, Nat.reduceMul, Int.reduceLE, Int.reduceLT, Int.reduceToNat, Nat.reduceLeDiff, Nat.reduceSub, Int.reduceEq, Nat.reduceBEq, List.replicate, List.set, evB, tyA, hwi]; (repeat (with_reducible refine And.intro ?_ ?_; exact sdX)); (with_reducible first | refine awp_id ?_ | refine id_call ?_ | refine id_and ?_ | refine id_ex ?_ | refine id_all ?_ | refine id_nat ?_ | refine id_le ?_))))
          refine ⟨i + 1, by rw [hpE]; omega, by omega, mkS_le rfl ?_ ?_⟩
          · simp (maxSteps := 4000000) only [↓reduceIte, Nat.reduceLT, Nat.reduceEqDiff, reduceCtorEq, Nat.reduceAdd, Nat.reduceMul, Int.reduceLE, Int.reduceLT, Int.reduceToNat, Nat.reduceLeDiff, Nat.reduceSub, Int.reduceEq, Nat.reduceBEq, List.replicate, List.set, evB, hpE]
          · simp (maxSteps := 4000000) only [↓reduceIte, Nat.reduceLT, Nat.reduceEqDiff, reduceCtorEq, Nat.reduceAdd, Nat.reduceMul, Int.reduceLE, Int.reduceLT, Int.reduceToNat, Nat.reduceLeDiff, Nat.reduceSub, Int.reduceEq, Nat.reduceBEq, List.replicate, List.set, evB, hpE, bos_take, bos_app, bos_one, hFs, iis_take, iis_app, iis_one, hNs, hFt, hNt]
    · have d1 : decide ((i : Int) < ((jQ T L z i).length : Int)) = false := by simpa using hlt
      have hQe := hend (i := i) hlt (by omega)
      rw [hQe] at hi hlt d1 hik ⊢
      have hei : i = Q.length := by omega
      have hQl : (jNx T L Q).length = Q.length := by simp [jNx]
      have hQf : (jFin l Q).length = Q.length := by simp [jFin]
      have hNt : (jNx T L Q).take i = jNx T L Q := List.take_of_length_le (by omega)
      have hFt : (jFin l Q).take i = jFin l Q := List.take_of_length_le (by omega)
      rw [hNt, hFt]
      rw [← hei] at hQl hQf
      refine awp_pureO 5003 (by simp (maxSteps := 4000000) only [↓reduceIte, Nat.reduceLT, Nat.reduceEqDiff, reduceCtorEq, Nat.reduceAdd, Nat.reduceMul, Int.reduceLE, Int.reduceLT, Int.reduceToNat, Nat.reduceLeDiff, Nat.reduceSub, Int.reduceEq, Nat.reduceBEq, List.replicate, List.set, evB]; rfl) rfl (by simp (maxSteps := 4000000) only [↓reduceIte, Nat.reduceLT, Nat.reduceEqDiff, reduceCtorEq, Nat.reduceAdd, Nat.reduceMul, Int.reduceLE, Int.reduceLT, Int.reduceToNat, Nat.reduceLeDiff, Nat.reduceSub, Int.reduceEq, Nat.reduceBEq, List.replicate, List.set, evB, bos_len, bos_take, iis_len, iis_take, hFt, hNt, hQl, hQf]; rfl) (by simp (maxSteps := 4000000) only [↓reduceIte, Nat.reduceLT, Nat.reduceEqDiff, reduceCtorEq, Nat.reduceAdd, Nat.reduceMul, Int.reduceLE, Int.reduceLT, Int.reduceToNat, Nat.reduceLeDiff, Nat.reduceSub, Int.reduceEq, Nat.reduceBEq, List.replicate, List.set, evB, bos_len, iis_len, hQl, hQf]) (by decide) ?_
      (repeat (first | refine awp_seq ?_ | refine awp_block ?_ | ((first | refine awp_skip ?_ | refine awp_exit ?_ | refine awp_reg ttok ?_ | (refine awp_draw ttok ?dr_calm ?_; (case dr_calm => decide +kernel)) | refine awp_condM ?_); simp (maxSteps := 4000000) only [↓reduceIte, Nat.reduceLT, Nat.reduceEqDiff, reduceCtorEq, Nat.reduceAdd, Nat.reduceMul, Int.reduceLE, Int.reduceLT, Int.reduceToNat, Nat.reduceLeDiff, Nat.reduceSub, Int.reduceEq, Nat.reduceBEq, List.replicate, List.set, evB, tyA, d1, iis_len]; (repeat (with_reducible refine And.intro ?_ ?_; exact sdX)); (with_reducible first | refine awp_id ?_ | refine id_call ?_ | refine id_and ?_ | refine id_ex ?_ | refine id_all ?_ | refine id_nat ?_ | refine id_le ?_))))
      exact awp_ret (endsV [] (.inr rfl) (by simp (maxSteps := 4000000) only [↓reduceIte, Nat.reduceLT, Nat.reduceEqDiff, reduceCtorEq, Nat.reduceAdd, Nat.reduceMul, Int.reduceLE, Int.reduceLT, Int.reduceToNat, Nat.reduceLeDiff, Nat.reduceSub, Int.reduceEq, Nat.reduceBEq, List.replicate, List.set, evB, tyA, dfaD]; rfl) trivial evX)
theorem JA.of_stop {T : StepT} {L n i0 : Nat} {z : List Int} (h : ¬ i0 < (jQ T L z i0).length) (hlen : (jQ T L z i0).length ≤ n) (hn : i0 ≤ n) : JA T L z n (jQ T L z i0) := by
  refine ⟨fun i => ?_, ?_⟩
  · by_cases hi : i0 ≤ i
    · have := jQ_stop h (i - i0)
      rw [show i0 + (i - i0) = i by omega] at this
      rw [this]; exact hlen
    · obtain ⟨u, hu⟩ := jQ_pre T L z i (i0 - i)
      rw [show i + (i0 - i) = i0 by omega] at hu
      rw [hu, List.length_append] at hlen
      omega
  · have := jQ_stop h (n - i0)
    rw [show i0 + (n - i0) = n by omega] at this
    rw [this]
def l27 : List Pr := firstP g24 2
theorem v27q : jQ (stepN l27 lb24) 1 (startsL l27) 2 = [[0, 0], [1, 1]] := by decide +kernel
theorem ja27 : JA (stepN l27 lb24) lb24.length (startsL l27) 2000 [[0, 0], [1, 1]] := by
  have := JA.of_stop (T := stepN l27 lb24) (L := 1) (n := 2000) (z := startsL l27) (i0 := 2) (by rw [v27q]; decide) (by rw [v27q]; decide) (by decide)
  rw [v27q] at this
  exact this
theorem v27f : jFin l27 [[0, 0], [1, 1]] = [false, true] := by decide +kernel
theorem v27n : jNx (stepN l27 lb24) 1 [[0, 0], [1, 1]] = [[1], [-1]] := by decide +kernel
theorem v27y : folJ l27 lb24 [0] = true := by decide +kernel
theorem v27z : folJ l27 lb24 [] = false := by decide +kernel
theorem good27 : GoodL lb24 l27.length := fun k hk => by
  have hk0 : k = 0 := by
    have : lb24.length = 1 := rfl
    omega
  subst hk0
  exact ⟨0, 1, by decide, by decide, by decide, rfl, rfl⟩
theorem wf27 : ∀ i, i < l27.length → PWf (l27.getD i noPr) := fun i hi => by
  match i, hi with
  | 0, _ => exact wf24 1 0
  | 1, _ => exact wf24 2 1
set_option maxHeartbeats 16000000 in
theorem c_awake27 : Contract Try.prog 32 [] (bo true) [] := by
  refine contract_of_awp (rs := [0]) Try.func32 rfl Try.ntmps32 (by simp) rfl fun E => ?_
  have hM := c_JMay (lb := lb24) (by decide) 2 (by decide) ok24 false false
  have hOf := c_JOf false false l27 lb24 (by decide) (by decide) good27 wf27 hM ja27
  rw [show lb24.length = 1 from rfl, v27f, v27n] at hOf
  have hY := c_JFollows false false false l27 lb24 [0] (by decide) good27 wf27 (by decide)
  have hZ := fun h => c_JFollows false false h l27 lb24 [] (by decide) good27 wf27 (by decide)
  rw [v27y] at hY
  rw [v27z] at hZ
  have hp2 : prs l27 = [prC (x24 1 0), prC (x24 2 1)] := rfl
  rw [hp2] at hOf hY hZ
  have hp3 : prs (firstP g24 2) = [prC (x24 1 0), prC (x24 2 1)] := rfl
  rw [hp3] at hM
  have k1 : ((0 : Int) == 0) = true := rfl
  have k2 : (((2 : Nat) : Int) == 2) = true := rfl
  have hl0 : (iis [[1], [-1]]).length = 2 := rfl
  (repeat (first | refine awp_seq ?_ | refine awp_block ?_ | ((first | refine awp_skip ?_ | refine awp_exit ?_ | refine awp_reg ttok ?_ | (refine awp_draw ttok ?dr_calm ?_; (case dr_calm => decide +kernel)) | refine awp_condM ?_); simp (maxSteps := 4000000) only [↓reduceIte, Nat.reduceLT, Nat.reduceEqDiff, reduceCtorEq, Nat.reduceAdd, Nat.reduceMul, Int.reduceLE, Int.reduceLT, Int.reduceToNat, Nat.reduceLeDiff, Nat.reduceSub, Int.reduceEq, Nat.reduceBEq, List.replicate, List.set, evB, tyA]; (repeat (with_reducible refine And.intro ?_ ?_; exact sdX)); (with_reducible first | refine awp_id ?_ | refine id_call ?_ | refine id_and ?_ | refine id_ex ?_ | refine id_all ?_ | refine id_nat ?_ | refine id_le ?_))))
  refine callVC_mk fnok33 hOf rfl ?_
  simp (maxSteps := 4000000) only [↓reduceIte, Nat.reduceLT, Nat.reduceEqDiff, reduceCtorEq, Nat.reduceAdd, Nat.reduceMul, Int.reduceLE, Int.reduceLT, Int.reduceToNat, Nat.reduceLeDiff, Nat.reduceSub, Int.reduceEq, Nat.reduceBEq, List.replicate, List.set, evB, tyA, dfaD]
  (repeat (with_reducible refine And.intro ?_ ?_; exact sdX))
  (repeat (first | refine awp_seq ?_ | refine awp_block ?_ | ((first | refine awp_skip ?_ | refine awp_exit ?_ | refine awp_reg ttok ?_ | (refine awp_draw ttok ?dr_calm ?_; (case dr_calm => decide +kernel)) | refine awp_condM ?_); simp (maxSteps := 4000000) only [↓reduceIte, Nat.reduceLT, Nat.reduceEqDiff, reduceCtorEq, Nat.reduceAdd, Nat.reduceMul, Int.reduceLE, Int.reduceLT, Int.reduceToNat, Nat.reduceLeDiff, Nat.reduceSub, Int.reduceEq, Nat.reduceBEq, List.replicate, List.set, evB, tyA, k1, k2, hl0]; (repeat (with_reducible refine And.intro ?_ ?_; exact sdX)); (with_reducible first | refine awp_id ?_ | refine id_call ?_ | refine id_and ?_ | refine id_ex ?_ | refine id_all ?_ | refine id_nat ?_ | refine id_le ?_))))
  refine callVC_scal fnok40 hY rfl ?_
  simp (maxSteps := 4000000) only [↓reduceIte, Nat.reduceLT, Nat.reduceEqDiff, reduceCtorEq, Nat.reduceAdd, Nat.reduceMul, Int.reduceLE, Int.reduceLT, Int.reduceToNat, Nat.reduceLeDiff, Nat.reduceSub, Int.reduceEq, Nat.reduceBEq, List.replicate, List.set, evB, tyA, k1, k2]
  (repeat (with_reducible refine And.intro ?_ ?_; exact sdX))
  refine callVC_scal fnok40 (hZ true) rfl ?_
  simp (maxSteps := 4000000) only [↓reduceIte, Nat.reduceLT, Nat.reduceEqDiff, reduceCtorEq, Nat.reduceAdd, Nat.reduceMul, Int.reduceLE, Int.reduceLT, Int.reduceToNat, Nat.reduceLeDiff, Nat.reduceSub, Int.reduceEq, Nat.reduceBEq, List.replicate, List.set, evB, tyA, k1, k2]
  (repeat (with_reducible refine And.intro ?_ ?_; exact sdX))
  refine callVC_scal fnok39 hM rfl ?_
  simp (maxSteps := 4000000) only [↓reduceIte, Nat.reduceLT, Nat.reduceEqDiff, reduceCtorEq, Nat.reduceAdd, Nat.reduceMul, Int.reduceLE, Int.reduceLT, Int.reduceToNat, Nat.reduceLeDiff, Nat.reduceSub, Int.reduceEq, Nat.reduceBEq, List.replicate, List.set, evB, tyA]
  (repeat (with_reducible refine And.intro ?_ ?_; exact sdX))
  (repeat (first | refine awp_seq ?_ | refine awp_block ?_ | ((first | refine awp_skip ?_ | refine awp_exit ?_ | refine awp_reg ttok ?_ | (refine awp_draw ttok ?dr_calm ?_; (case dr_calm => decide +kernel)) | refine awp_condM ?_); simp (maxSteps := 4000000) only [↓reduceIte, Nat.reduceLT, Nat.reduceEqDiff, reduceCtorEq, Nat.reduceAdd, Nat.reduceMul, Int.reduceLE, Int.reduceLT, Int.reduceToNat, Nat.reduceLeDiff, Nat.reduceSub, Int.reduceEq, Nat.reduceBEq, List.replicate, List.set, evB, tyA]; (repeat (with_reducible refine And.intro ?_ ?_; exact sdX)); (with_reducible first | refine awp_id ?_ | refine id_call ?_ | refine id_and ?_ | refine id_ex ?_ | refine id_all ?_ | refine id_nat ?_ | refine id_le ?_))))
  exact awp_ret (ends_plain (.inr rfl) rfl evX)
theorem good5 (n : Nat) : GoodL (fix5.take n) 3 := fun k hk => by
  have hk5 : k < 5 ∧ k < n := by
    have : (fix5.take n).length = min n 5 := by simp [fix5]
    omega
  have e : (fix5.take n).getD k (0, 0, 0) = fix5.getD k (0, 0, 0) := by
    simp [List.getD, List.getElem?_take, hk5.2]
  rw [e]
  match k, hk5.1 with
  | 0, _ => exact ⟨0, 1, by decide, by decide, by decide, rfl, rfl⟩
  | 1, _ => exact ⟨0, 1, by decide, by decide, by decide, rfl, rfl⟩
  | 2, _ => exact ⟨0, 2, by decide, by decide, by decide, rfl, rfl⟩
  | 3, _ => exact ⟨1, 0, by decide, by decide, by decide, rfl, rfl⟩
  | 4, _ => exact ⟨2, 1, by decide, by decide, by decide, rfl, rfl⟩
theorem goodL_labP (z : Int) : GoodL (labP z) 3 := good5 _
theorem firstP_wf {lb : List Lab} {st : Nat} {F : List Bool} {N : List (List Int)} {g : Int → Pr} (hg : ∀ p, POk lb st F N p (g p)) (n : Nat) : ∀ i, i < (firstP g n).length → PWf ((firstP g n).getD i noPr) := fun i hi => by
  rw [firstP_len] at hi
  rw [firstP_at hi]
  exact (hg _).wf
theorem folJ_far (l : List Pr) (lb : List Lab) : folJ l lb [(lb.length : Int)] = false := by
  unfold folJ
  rw [runJ]
  have : stepJ l lb (startsL l) (lb.length : Int) = none := by unfold stepJ; rw [if_neg (by omega)]
  rw [this]
set_option maxRecDepth 20000 in
set_option maxHeartbeats 32000000 in
theorem c_JointInput (f fs : Bool) (l : List (Int × Int × Int)) (z0 z1 z2 : Int) (s : List Int) (hl : l.length ≤ 9223372036854775807) (hs : s.length ≤ 9223372036854775807) :
    Contract Try.prog 8 [.sl f (tri l), .agg [i64 z0, i64 z1, i64 z2], .sl fs (ints s)] (bo true) [] := by
  refine contract_of_awp (rs := [6]) Try.func8 rfl Try.ntmps8 (by simp) rfl fun E => ?_
  have hAny := c_RAny f l (z0.fdiv (2 ^ min 4 IntKind.i64.bits)) z0 z1 hl
  obtain ⟨fin, hfin⟩ : ∃ fin, z0.fdiv (2 ^ min 4 IntKind.i64.bits) = fin := ⟨_, rfl⟩
  rw [hfin] at hAny
  have hL := labD_le z0
  rw [← labP_len] at hL
  have hgl := goodL_labP z0
  have hk := numD_le z1
  have hst := startD_lt z1
  have hok := nextD_ok (L := (labP z0).length) hk.1 l
  have hF := finD_len fin (numD z1)
  generalize nextD (labP z0).length (numD z1) l = N at *
  generalize labP z0 = lb at *
  generalize finD fin (numD z1) = F at *
  generalize numD z1 = k at *
  generalize startD z1 = st at *
  (repeat (first | refine awp_seq ?_ | refine awp_block ?_ | ((first | refine awp_skip ?_ | refine awp_exit ?_ | refine awp_reg ttok ?_ | (refine awp_draw ttok ?dr_calm ?_; (case dr_calm => decide +kernel)) | refine awp_condM ?_); simp (maxSteps := 4000000) only [↓reduceIte, Nat.reduceLT, Nat.reduceEqDiff, reduceCtorEq, Nat.reduceAdd, Nat.reduceMul, Int.reduceLE, Int.reduceLT, Int.reduceToNat, Nat.reduceLeDiff, Nat.reduceSub, Int.reduceEq, Nat.reduceBEq, List.replicate, List.set, evB, tyA, hfin]; (repeat (with_reducible refine And.intro ?_ ?_; exact sdX)); (with_reducible first | refine awp_id ?_ | refine id_call ?_ | refine id_and ?_ | refine id_ex ?_ | refine id_all ?_ | refine id_nat ?_ | refine id_le ?_))))
  refine callVC_mk fnok17 hAny rfl ?_
  simp (maxSteps := 4000000) only [↓reduceIte, Nat.reduceLT, Nat.reduceEqDiff, reduceCtorEq, Nat.reduceAdd, Nat.reduceMul, Int.reduceLE, Int.reduceLT, Int.reduceToNat, Nat.reduceLeDiff, Nat.reduceSub, Int.reduceEq, Nat.reduceBEq, List.replicate, List.set, evB, tyA, dfaD]
  (repeat (with_reducible refine And.intro ?_ ?_; exact sdX))
  (repeat (first | refine awp_seq ?_ | refine awp_block ?_ | ((first | refine awp_skip ?_ | refine awp_exit ?_ | refine awp_reg ttok ?_ | (refine awp_draw ttok ?dr_calm ?_; (case dr_calm => decide +kernel)) | refine awp_condM ?_); simp (maxSteps := 4000000) only [↓reduceIte, Nat.reduceLT, Nat.reduceEqDiff, reduceCtorEq, Nat.reduceAdd, Nat.reduceMul, Int.reduceLE, Int.reduceLT, Int.reduceToNat, Nat.reduceLeDiff, Nat.reduceSub, Int.reduceEq, Nat.reduceBEq, List.replicate, List.set, evB, tyA]; (repeat (with_reducible refine And.intro ?_ ?_; exact sdX)); (with_reducible first | refine awp_id ?_ | refine id_call ?_ | refine id_and ?_ | refine id_ex ?_ | refine id_all ?_ | refine id_nat ?_ | refine id_le ?_))))
  cases hv : (liveL F N).getD st false
  · rcases hide_says hok (by omega) (by omega) st hst F hF 0 with ⟨h0, _⟩ | ⟨_, hOf⟩
    · rw [hv] at h0; cases h0
    · refine callVC_mk fnok23 (c_PeersNo hok st F false (hOf false)) rfl ?_
      simp (maxSteps := 4000000) only [↓reduceIte, Nat.reduceLT, Nat.reduceEqDiff, reduceCtorEq, Nat.reduceAdd, Nat.reduceMul, Int.reduceLE, Int.reduceLT, Int.reduceToNat, Nat.reduceLeDiff, Nat.reduceSub, Int.reduceEq, Nat.reduceBEq, List.replicate, List.set, evB, tyA]
      (repeat (with_reducible refine And.intro ?_ ?_; exact sdX))
      (repeat (first | refine awp_seq ?_ | refine awp_block ?_ | ((first | refine awp_skip ?_ | refine awp_exit ?_ | refine awp_reg ttok ?_ | (refine awp_draw ttok ?dr_calm ?_; (case dr_calm => decide +kernel)) | refine awp_condM ?_); simp (maxSteps := 4000000) only [↓reduceIte, Nat.reduceLT, Nat.reduceEqDiff, reduceCtorEq, Nat.reduceAdd, Nat.reduceMul, Int.reduceLE, Int.reduceLT, Int.reduceToNat, Nat.reduceLeDiff, Nat.reduceSub, Int.reduceEq, Nat.reduceBEq, List.replicate, List.set, evB, tyA]; (repeat (with_reducible refine And.intro ?_ ?_; exact sdX)); (with_reducible first | refine awp_id ?_ | refine id_call ?_ | refine id_and ?_ | refine id_ex ?_ | refine id_all ?_ | refine id_nat ?_ | refine id_le ?_))))
      refine callVC_scal fnok32 c_awake27 rfl ?_
      simp (maxSteps := 4000000) only [↓reduceIte, Nat.reduceLT, Nat.reduceEqDiff, reduceCtorEq, Nat.reduceAdd, Nat.reduceMul, Int.reduceLE, Int.reduceLT, Int.reduceToNat, Nat.reduceLeDiff, Nat.reduceSub, Int.reduceEq, Nat.reduceBEq, List.replicate, List.set, evB, tyA]
      (repeat (with_reducible refine And.intro ?_ ?_; exact sdX))
      (repeat (first | refine awp_seq ?_ | refine awp_block ?_ | ((first | refine awp_skip ?_ | refine awp_exit ?_ | refine awp_reg ttok ?_ | (refine awp_draw ttok ?dr_calm ?_; (case dr_calm => decide +kernel)) | refine awp_condM ?_); simp (maxSteps := 4000000) only [↓reduceIte, Nat.reduceLT, Nat.reduceEqDiff, reduceCtorEq, Nat.reduceAdd, Nat.reduceMul, Int.reduceLE, Int.reduceLT, Int.reduceToNat, Nat.reduceLeDiff, Nat.reduceSub, Int.reduceEq, Nat.reduceBEq, List.replicate, List.set, evB, tyA]; (repeat (with_reducible refine And.intro ?_ ?_; exact sdX)); (with_reducible first | refine awp_id ?_ | refine id_call ?_ | refine id_and ?_ | refine id_ex ?_ | refine id_all ?_ | refine id_nat ?_ | refine id_le ?_))))
      exact awp_ret (ends_plain (.inr rfl) rfl evX)
  obtain ⟨g, hg⟩ := peers_pick hok (by omega) (by omega) st hst F hF hv
  have hP := c_Peers hok st F false hg
  have hwf := firstP_wf hg 3
  have hfl := firstP_len g 3
  have hg0 := prs_get (g := g) (n := 3) (i := 0) (by decide)
  have hg1 := prs_get (g := g) (n := 3) (i := 1) (by decide)
  have hg2 := prs_get (g := g) (n := 3) (i := 2) (by decide)
  have hp1 := (hg ((1 : Nat) : Int)).p
  obtain ⟨B, hB⟩ : ∃ B, B = [g ((1 : Nat) : Int), g ((0 : Nat) : Int), g ((2 : Nat) : Int)] := ⟨_, rfl⟩
  have hB1 : [prC (g ((1 : Nat) : Int)), prC (g ((0 : Nat) : Int)), prC (g ((2 : Nat) : Int))] = prs B := by rw [hB]; rfl
  have hBl : B.length = 3 := by rw [hB]; rfl
  have hBp : (B.getD 0 noPr).p ≠ 0 := by rw [hB]; show (g ((1 : Nat) : Int)).p ≠ 0; rw [hp1]; decide
  have hMB := c_JMayBad false false lb B (by omega) (by omega) hBp
  have hOB := c_JOfBad false false lb B hMB
  rw [← hfl] at hgl
  have hpl := prs_len (firstP g 3)
  rw [hfl] at hpl
  have hFi := c_JFirst false (firstP g 3) (by omega)
  have hsl := startsL_len (firstP g 3)
  have hT1 := c_JToBad false false false (firstP g 3) lb (startsL (firstP g 3)) (-1) (.inl (by decide))
  have hT2 := c_JToBad false false false (firstP g 3) lb (s.take (min s.length 2)) 0 (.inr (.inr (by rw [List.length_take, hfl]; omega)))
  have hMZ := c_JMayZ false false lb 17 (by decide)
  have hFo := c_JFollows false false false (firstP g 3) lb [(lb.length : Int)] (by omega) hgl hwf (by simp)
  rw [folJ_far] at hFo
  have hEn := c_JEndsNil false true (firstP g 3) (by omega) (by omega)
  generalize startsL (firstP g 3) = q at *
  have hqt : List.take q.length q = q := List.take_length
  generalize prs (firstP g 3) = PP at *
  refine callVC_mk fnok23 hP rfl ?_
  simp (maxSteps := 4000000) only [↓reduceIte, Nat.reduceLT, Nat.reduceEqDiff, reduceCtorEq, Nat.reduceAdd, Nat.reduceMul, Int.reduceLE, Int.reduceLT, Int.reduceToNat, Nat.reduceLeDiff, Nat.reduceSub, Int.reduceEq, Nat.reduceBEq, List.replicate, List.set, evB, tyA]
  (repeat (with_reducible refine And.intro ?_ ?_; exact sdX))
  (repeat (first | refine awp_seq ?_ | refine awp_block ?_ | ((first | refine awp_skip ?_ | refine awp_exit ?_ | refine awp_reg ttok ?_ | (refine awp_draw ttok ?dr_calm ?_; (case dr_calm => decide +kernel)) | refine awp_condM ?_); simp (maxSteps := 4000000) only [↓reduceIte, Nat.reduceLT, Nat.reduceEqDiff, reduceCtorEq, Nat.reduceAdd, Nat.reduceMul, Int.reduceLE, Int.reduceLT, Int.reduceToNat, Nat.reduceLeDiff, Nat.reduceSub, Int.reduceEq, Nat.reduceBEq, List.replicate, List.set, evB, tyA]; (repeat (with_reducible refine And.intro ?_ ?_; exact sdX)); (with_reducible first | refine awp_id ?_ | refine id_call ?_ | refine id_and ?_ | refine id_ex ?_ | refine id_all ?_ | refine id_nat ?_ | refine id_le ?_))))
  refine awp_drawG ttok ((0, none) :: (1, none) :: (2, none) :: (3, none) :: (4, none) :: (5, none) :: (6, none) :: (7, none) :: (8, none) :: (9, some []) :: (10, none) :: []) ([]) ([]) (by decide +kernel) fun O hO => ?_; simp only [OpsAre, Nat.reduceAdd, and_true, List.toList_toArray, List.append_eq, List.cons_append, List.nil_append] at hO; simp (maxSteps := 4000000) only [↓reduceIte, Nat.reduceLT, Nat.reduceEqDiff, reduceCtorEq, Nat.reduceAdd, Nat.reduceMul, Int.reduceLE, Int.reduceLT, Int.reduceToNat, Nat.reduceLeDiff, Nat.reduceSub, Int.reduceEq, Nat.reduceBEq, List.replicate, List.set, evB, tyA, hO, hg0, hg1, hg2, hpl]; (repeat (with_reducible refine And.intro ?_ ?_; exact sdX))
  have hB2 : (prs B).length = 3 := by rw [prs_len, hBl]
  have hB3 : List.take 3 (prs B) = prs B := List.take_of_length_le (by omega)
  have k1 : ((1 : Int) == 1) = true := rfl
  have zP : ∀ n : Nat, List.replicate n (List.map ofAtom (Value.agg #[]).cells.toList) = List.replicate n [] := fun n => rfl
  (repeat (first | refine awp_seq ?_ | refine awp_block ?_ | ((first | refine awp_skip ?_ | refine awp_exit ?_ | refine awp_reg ttok ?_ | (refine awp_draw ttok ?dr_calm ?_; (case dr_calm => decide +kernel)) | refine awp_condM ?_); simp (maxSteps := 4000000) only [↓reduceIte, Nat.reduceLT, Nat.reduceEqDiff, reduceCtorEq, Nat.reduceAdd, Nat.reduceMul, Int.reduceLE, Int.reduceLT, Int.reduceToNat, Nat.reduceLeDiff, Nat.reduceSub, Int.reduceEq, Nat.reduceBEq, List.replicate, List.set, evB, tyA, hB1, hB2, hB3]; (repeat (with_reducible refine And.intro ?_ ?_; exact sdX)); (with_reducible first | refine awp_id ?_ | refine id_call ?_ | refine id_and ?_ | refine id_ex ?_ | refine id_all ?_ | refine id_nat ?_ | refine id_le ?_))))
  refine callVC_mk fnok33 hOB rfl ?_
  unfold noDfa
  simp (maxSteps := 4000000) only [↓reduceIte, Nat.reduceLT, Nat.reduceEqDiff, reduceCtorEq, Nat.reduceAdd, Nat.reduceMul, Int.reduceLE, Int.reduceLT, Int.reduceToNat, Nat.reduceLeDiff, Nat.reduceSub, Int.reduceEq, Nat.reduceBEq, List.replicate, List.set, evB, tyA, hB1, hB2, hB3]
  (repeat (with_reducible refine And.intro ?_ ?_; exact sdX))
  (repeat (first | refine awp_seq ?_ | refine awp_block ?_ | ((first | refine awp_skip ?_ | refine awp_exit ?_ | refine awp_reg ttok ?_ | (refine awp_draw ttok ?dr_calm ?_; (case dr_calm => decide +kernel)) | refine awp_condM ?_); simp (maxSteps := 4000000) only [↓reduceIte, Nat.reduceLT, Nat.reduceEqDiff, reduceCtorEq, Nat.reduceAdd, Nat.reduceMul, Int.reduceLE, Int.reduceLT, Int.reduceToNat, Nat.reduceLeDiff, Nat.reduceSub, Int.reduceEq, Nat.reduceBEq, List.replicate, List.set, evB, tyA]; (repeat (with_reducible refine And.intro ?_ ?_; exact sdX)); (with_reducible first | refine awp_id ?_ | refine id_call ?_ | refine id_and ?_ | refine id_ex ?_ | refine id_all ?_ | refine id_nat ?_ | refine id_le ?_))))
  refine callVC_mk fnok35 hFi rfl ?_
  simp (maxSteps := 4000000) only [↓reduceIte, Nat.reduceLT, Nat.reduceEqDiff, reduceCtorEq, Nat.reduceAdd, Nat.reduceMul, Int.reduceLE, Int.reduceLT, Int.reduceToNat, Nat.reduceLeDiff, Nat.reduceSub, Int.reduceEq, Nat.reduceBEq, List.replicate, List.set, evB, tyA, ints_len, ints_take, hqt]
  (repeat (with_reducible refine And.intro ?_ ?_; exact sdX))
  refine callVC_mk fnok38 hT1 rfl ?_
  simp (maxSteps := 4000000) only [↓reduceIte, Nat.reduceLT, Nat.reduceEqDiff, reduceCtorEq, Nat.reduceAdd, Nat.reduceMul, Int.reduceLE, Int.reduceLT, Int.reduceToNat, Nat.reduceLeDiff, Nat.reduceSub, Int.reduceEq, Nat.reduceBEq, List.replicate, List.set, evB, tyA, toJD]
  (repeat (with_reducible refine And.intro ?_ ?_; exact sdX))
  have hmin : (if 2 < (s.length : Int) then (2 : Int) else (s.length : Int)).toNat = min s.length 2 := by split <;> omega
  have hI1 : [[i64 (lb.length : Int)]] = ints [(lb.length : Int)] := rfl
  (repeat (first | refine awp_seq ?_ | refine awp_block ?_ | ((first | refine awp_skip ?_ | refine awp_exit ?_ | refine awp_reg ttok ?_ | (refine awp_draw ttok ?dr_calm ?_; (case dr_calm => decide +kernel)) | refine awp_condM ?_); simp (maxSteps := 4000000) only [↓reduceIte, Nat.reduceLT, Nat.reduceEqDiff, reduceCtorEq, Nat.reduceAdd, Nat.reduceMul, Int.reduceLE, Int.reduceLT, Int.reduceToNat, Nat.reduceLeDiff, Nat.reduceSub, Int.reduceEq, Nat.reduceBEq, List.replicate, List.set, evB, tyA, ints_len, ints_take, hmin]; (repeat (with_reducible refine And.intro ?_ ?_; exact sdX)); (with_reducible first | refine awp_id ?_ | refine id_call ?_ | refine id_and ?_ | refine id_ex ?_ | refine id_all ?_ | refine id_nat ?_ | refine id_le ?_))))
  refine callVC_mk fnok38 hT2 rfl ?_
  simp (maxSteps := 4000000) only [↓reduceIte, Nat.reduceLT, Nat.reduceEqDiff, reduceCtorEq, Nat.reduceAdd, Nat.reduceMul, Int.reduceLE, Int.reduceLT, Int.reduceToNat, Nat.reduceLeDiff, Nat.reduceSub, Int.reduceEq, Nat.reduceBEq, List.replicate, List.set, evB, tyA, toJD]
  (repeat (with_reducible refine And.intro ?_ ?_; exact sdX))
  (repeat (first | refine awp_seq ?_ | refine awp_block ?_ | ((first | refine awp_skip ?_ | refine awp_exit ?_ | refine awp_reg ttok ?_ | (refine awp_draw ttok ?dr_calm ?_; (case dr_calm => decide +kernel)) | refine awp_condM ?_); simp (maxSteps := 4000000) only [↓reduceIte, Nat.reduceLT, Nat.reduceEqDiff, reduceCtorEq, Nat.reduceAdd, Nat.reduceMul, Int.reduceLE, Int.reduceLT, Int.reduceToNat, Nat.reduceLeDiff, Nat.reduceSub, Int.reduceEq, Nat.reduceBEq, List.replicate, List.set, evB, tyA]; (repeat (with_reducible refine And.intro ?_ ?_; exact sdX)); (with_reducible first | refine awp_id ?_ | refine id_call ?_ | refine id_and ?_ | refine id_ex ?_ | refine id_all ?_ | refine id_nat ?_ | refine id_le ?_))))
  refine callVC_scal fnok32 c_awake27 rfl ?_
  simp (maxSteps := 4000000) only [↓reduceIte, Nat.reduceLT, Nat.reduceEqDiff, reduceCtorEq, Nat.reduceAdd, Nat.reduceMul, Int.reduceLE, Int.reduceLT, Int.reduceToNat, Nat.reduceLeDiff, Nat.reduceSub, Int.reduceEq, Nat.reduceBEq, List.replicate, List.set, evB, tyA, hB1, hB2, hB3]
  (repeat (with_reducible refine And.intro ?_ ?_; exact sdX))
  refine callVC_scal fnok39 hMB rfl ?_
  simp (maxSteps := 4000000) only [↓reduceIte, Nat.reduceLT, Nat.reduceEqDiff, reduceCtorEq, Nat.reduceAdd, Nat.reduceMul, Int.reduceLE, Int.reduceLT, Int.reduceToNat, Nat.reduceLeDiff, Nat.reduceSub, Int.reduceEq, Nat.reduceBEq, List.replicate, List.set, evB, tyA, k1]
  (repeat (with_reducible refine And.intro ?_ ?_; exact sdX))
  refine callVC_scal fnok39 hMZ rfl ?_
  simp (maxSteps := 4000000) only [↓reduceIte, Nat.reduceLT, Nat.reduceEqDiff, reduceCtorEq, Nat.reduceAdd, Nat.reduceMul, Int.reduceLE, Int.reduceLT, Int.reduceToNat, Nat.reduceLeDiff, Nat.reduceSub, Int.reduceEq, Nat.reduceBEq, List.replicate, List.set, evB, tyA, k1, tri_len, hI1]
  (repeat (with_reducible refine And.intro ?_ ?_; exact sdX))
  refine callVC_scal fnok40 hFo rfl ?_
  simp (maxSteps := 4000000) only [↓reduceIte, Nat.reduceLT, Nat.reduceEqDiff, reduceCtorEq, Nat.reduceAdd, Nat.reduceMul, Int.reduceLE, Int.reduceLT, Int.reduceToNat, Nat.reduceLeDiff, Nat.reduceSub, Int.reduceEq, Nat.reduceBEq, List.replicate, List.set, evB, tyA]
  (repeat (with_reducible refine And.intro ?_ ?_; exact sdX))
  refine callVC_scal fnok36 hEn rfl ?_
  simp (maxSteps := 4000000) only [↓reduceIte, Nat.reduceLT, Nat.reduceEqDiff, reduceCtorEq, Nat.reduceAdd, Nat.reduceMul, Int.reduceLE, Int.reduceLT, Int.reduceToNat, Nat.reduceLeDiff, Nat.reduceSub, Int.reduceEq, Nat.reduceBEq, List.replicate, List.set, evB, tyA]
  (repeat (with_reducible refine And.intro ?_ ?_; exact sdX))
  (repeat (first | refine awp_seq ?_ | refine awp_block ?_ | ((first | refine awp_skip ?_ | refine awp_exit ?_ | refine awp_reg ttok ?_ | (refine awp_draw ttok ?dr_calm ?_; (case dr_calm => decide +kernel)) | refine awp_condM ?_); simp (maxSteps := 4000000) only [↓reduceIte, Nat.reduceLT, Nat.reduceEqDiff, reduceCtorEq, Nat.reduceAdd, Nat.reduceMul, Int.reduceLE, Int.reduceLT, Int.reduceToNat, Nat.reduceLeDiff, Nat.reduceSub, Int.reduceEq, Nat.reduceBEq, List.replicate, List.set, evB, tyA]; (repeat (with_reducible refine And.intro ?_ ?_; exact sdX)); (with_reducible first | refine awp_id ?_ | refine id_call ?_ | refine id_and ?_ | refine id_ex ?_ | refine id_all ?_ | refine id_nat ?_ | refine id_le ?_))))
  exact awp_ret (ends_plain (.inr rfl) rfl evX)
end Go.Proofs.Ytcpipfodedfpkaa
namespace Go.Proofs.Ytcpipfodedfpkaa.jointInput
open Go.ChangeShapes Go.WideShapes Go.ChangeAt Go.RowKit
open Go.Ab
theorem own : ownKnob Try.prog.godebug = none := by kernel_rfl
theorem laidOut : laidOutB Try.prog = true := by kernel_rfl
set_option maxRecDepth 100000 in
theorem lifted (os : Os) (started : os.Started) (H : Type) (enc : TypeId × Value → H) :
    ReturnsInHanded {} Try.checked os 8 .any (Rows.jointInputSpec.pre6 enc Try.prog Try.f8 Rows.jointInputRow.domain false) (Rows.jointInputSpec.post enc Try.prog Try.f8 false true false false) := by
  refine returnsInHanded_of_change (C := Try.checked) own started (by kernel_rfl) Try.func8
    (ChangeSpec.witness6 (enc := enc) (C := Try.checked) false ⟨#[], #[.slice none 0 0, .agg #[.int .i64 0, .int .i64 0, .int .i64 0], .slice none 0 0], []⟩ 8 (by kernel_rfl) (by kernel_rfl) (by kernel_rfl) (by kernel_rfl)) ?_
  intro W base args ds gs before hval0 hW hcnd _
  have hval : ∀ (j : Nat) t v, Try.f8.params[j]? = some t → args[j]? = some v → Value.okWide Try.prog W .any base t v := hval0
  have hW' := hW
  obtain ⟨p, q, hA0, hV, rfl, hfz, hnd⟩ := hW
  have hA : DataW.TrodAll enc Try.prog W 0 (fun _ => true) true Try.f8.params.toList args.toList ds p := hA0
  rw [Try.params8] at hA hval
  obtain ⟨v0, vs0, d0, ds0, p0, q0, hargs, rfl, rfl, k0, r0⟩ := trodAll_cons hA
  obtain ⟨v1, vs1, d1, ds1, p1, q1, rfl, rfl, rfl, k1, r1⟩ := trodAll_cons r0
  obtain ⟨v2, vs2, d2, ds2, p2, q2, rfl, rfl, rfl, k2, r2⟩ := trodAll_cons r1
  obtain ⟨rfl, rfl, rfl⟩ := trodAll_nil r2
  obtain rfl : args = #[v0, v1, v2] := by cases args; simp_all
  obtain ⟨rfl, rfl⟩ := trodVars_none hV
  obtain ⟨a0, h0, e0⟩ := opensArg_slice Try.underlying22 (opens_slice Try.underlying22 (opens_arr3i Try.underlying45 (by kernel_rfl) (by kernel_rfl) Try.underlying3) (fun a => by kernel_rfl) (by decide +kernel)) H enc W base v0 d0 p0 (hval 0 _ v0 rfl rfl) k0
  obtain ⟨a1, h1, e1⟩ := opensArg_agg Try.underlying45 rfl (opens_arr3i Try.underlying45 (by kernel_rfl) (by kernel_rfl) Try.underlying3) H enc W base v1 d1 p1 (hval 1 _ v1 rfl rfl) k1
  obtain ⟨a2, h2, e2⟩ := opensArg_slice Try.underlying40 (opens_ints Try.underlying40 Try.underlying3 (by kernel_rfl)) H enc W base v2 d2 p2 (hval 2 _ v2 rfl rfl) k2
  refine (law_walk (c_JointInput false false a0 a1.1 a1.2.1 a1.2.2 a2 h0.1 h2.1) (vs := [v0, v1, v2]) ⟨e0, e1, e2, trivial⟩).mono fun e W' ⟨he, bel⟩ => ?_
  subst he
  exact ⟨_, rfl, law_end hW' rfl bel rfl rfl rfl rfl Try.underlying4 laidOut (by kernel_rfl)⟩
theorem proved : Rows.JointInputSaid :=
  OpenClaim.holds_of_wide 8 Try.f8 rfl rfl rfl rfl rfl rfl rfl ⟨rfl, rfl, rfl, rfl, rfl⟩ rfl rfl rfl rfl rfl (by kernel_rfl) Try.func8 (by kernel_rfl)
    (of_decide_eq_true (by kernel_rfl)) (by unfold Func.isWrapper; first | (rw [if_pos (by decide +kernel)]; kernel_rfl) | (rw [if_neg (by decide +kernel)]; exact ⟨rfl, rfl⟩))
    (fun os started H enc _ => lifted os started H enc)
#print axioms proved
end Go.Proofs.Ytcpipfodedfpkaa.jointInput
