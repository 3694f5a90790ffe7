/-
  The contract of disk.Do.
-/
import Derived.Test.YtmfonlkigjpjcaaDisk
import Derived.Test.YtmfonlkigjpjcaaJn2
import Derived.Test.YtmfonlkigjpjcaaJn3
import Derived.Test.YtmfonlkigjpjcaaSnPl
namespace Go.Proofs.Ytmfonlkigjpjcaa
open Go.Ab
set_option linter.unusedSimpArgs false
set_option linter.unusedVariables false

/-- What is planned is written, so many bytes at most: whether all was, what is there then, how many blocks were written. -/
def doD : List (Nat × List UInt8) → Nat → List UInt8 → Bool × List UInt8 × Nat
  | [], _, m => (true, m, 0)
  | w :: ws, left, m => if left = 0 then (false, m, 0) else if left < 32 then (false, putAt m w.1 w.2 left, 1) else ((doD ws (left - 32) (putAt m w.1 w.2 32)).1, (doD ws (left - 32) (putAt m w.1 w.2 32)).2.1, (doD ws (left - 32) (putAt m w.1 w.2 32)).2.2 + 1)
theorem doD_n : ∀ (l : List (Nat × List UInt8)) (left : Nat) (m : List UInt8), (doD l left m).2.2 ≤ l.length
  | [], _, _ => by simp [doD]
  | w :: ws, left, m => by
    unfold doD
    split
    · simp
    · split
      · simp
      · have := doD_n ws (left - 32) (putAt m w.1 w.2 32)
        simp only [List.length_cons]; omega
theorem doD_len : ∀ (l : List (Nat × List UInt8)) (left : Nat) (m : List UInt8), (∀ w ∈ l, w.1 < 64 ∧ w.2.length = 32) → m.length = 2048 → (doD l left m).2.1.length = 2048
  | [], _, _, _, hm => hm
  | w :: ws, left, m, h, hm => by
    have hw := h w (by simp)
    unfold doD
    split
    · exact hm
    · split
      · exact putAt_len hm hw.1 hw.2 (by omega)
      · exact doD_len ws _ _ (fun x hx => h x (by simp [hx])) (putAt_len hm hw.1 hw.2 (by omega))

set_option maxHeartbeats 8000000 in
theorem c_dDo (f : Bool) (plan : List (Nat × List UInt8)) (m : List UInt8) (w most : Int) (hp : ∀ x ∈ plan, x.1 < 64 ∧ x.2.length = 32) (hn : plan.length ≤ 100000) (hl : m.length = 2048) (hw0 : 0 ≤ w) (hw1 : w ≤ 100000) (hmo : most ≤ 9223372036854775807) :
    ContractM Try.prog 9 [{ sz := 2, rows := [[.own 1 0 2048, i64 w]], flat := false }, { sz := 1, rows := bys m }] [.ptr 0 0 0, .sl f (wrs plan), i64 most] (bo (doD plan most.toNat m).1)
      [some { sz := 2, rows := [[.own 1 0 2048, i64 (w + ((doD plan most.toNat m).2.2 : Nat))]], flat := false }, some { sz := 1, rows := bys (doD plan most.toNat m).2.1 }] := by
  refine contractM_of_awp (rs := [6]) Try.func9 rfl Try.ntmps9 (by simp) rfl fun E => ?_
  have hmax : (if (0 : Int) > most then (0 : Int) else most) = (most.toNat : Int) := by split <;> omega
  have hmt : most.toNat ≤ 9223372036854775807 := by omega
  generalize most.toNat = L at hmax hmt
  generalize hr : doD plan L m = r
  (repeat (first | refine awp_seq ?_ | refine awp_block ?_ | ((first | refine awp_skip ?_ | refine awp_exit ?_ | refine awp_reg ttok ?_ | (refine awp_draw ttok ?dr_calm ?_; (case dr_calm => decide +kernel)) | refine awp_condM ?_); simp (maxSteps := 4000000) only [↓reduceIte, Nat.reduceLT, Nat.reduceEqDiff, reduceCtorEq, Nat.reduceAdd, Nat.reduceMul, Int.reduceLE, Int.reduceLT, Int.reduceToNat, Nat.reduceLeDiff, Nat.reduceSub, Int.reduceEq, Nat.reduceBEq, List.replicate, List.set, if_false, if_true, ne_eq, false_implies, implies_true, evA, tyA, hmax, wrs_len]; (repeat (with_reducible refine And.intro ?_ ?_; focus ((repeat' with_reducible apply And.intro) <;> (first | omega | with_reducible trivial | with_reducible assumption)))); (with_reducible first | refine awp_id ?_ | refine id_call ?_ | refine id_and ?_ | refine id_ex ?_ | refine id_all ?_ | refine id_le ?_))))
  refine awp_loop (X := Nat × Nat × List UInt8) (fun x => mkS 33 [(0, .ptr 0 0 0), (7, i64 x.2.1), (13, .sl f (wrs plan)), (14, i64 plan.length), (15, i64 x.1)] [(0, { sz := 2, rows := [[.own 1 0 2048, i64 (w + x.1)]], flat := false, pin := true }), (1, { sz := 1, rows := bys x.2.2, pin := true })])
    (fun x => x.1 ≤ plan.length ∧ x.2.1 ≤ 9223372036854775807 ∧ x.2.2.length = 2048 ∧ (doD (plan.drop x.1) x.2.1 x.2.2).1 = r.1 ∧ (doD (plan.drop x.1) x.2.1 x.2.2).2.1 = r.2.1 ∧ (doD (plan.drop x.1) x.2.1 x.2.2).2.2 + x.1 = r.2.2) (fun x => plan.length - x.1) (0, L, m) ⟨by simp, hmt, hl, by simp [hr], by simp [hr], by simp [hr]⟩ (mkS_le rfl ?_ ?_) ?_
  · simp (maxSteps := 4000000) only [↓reduceIte, Nat.reduceLT, Nat.reduceEqDiff, reduceCtorEq, Nat.reduceAdd, Nat.reduceMul, Int.reduceLE, Int.reduceLT, Int.reduceToNat, Nat.reduceLeDiff, Nat.reduceSub, Int.reduceEq, Nat.reduceBEq, List.replicate, List.set, if_false, if_true, ne_eq, false_implies, implies_true, evA, AObj.pinned]
    try rfl
  · simp (maxSteps := 4000000) only [↓reduceIte, Nat.reduceLT, Nat.reduceEqDiff, reduceCtorEq, Nat.reduceAdd, Nat.reduceMul, Int.reduceLE, Int.reduceLT, Int.reduceToNat, Nat.reduceLeDiff, Nat.reduceSub, Int.reduceEq, Nat.reduceBEq, List.replicate, List.set, if_false, if_true, ne_eq, false_implies, implies_true, evA, AObj.pinned, show w + ((0 : Nat) : Int) = w from Int.add_zero w]
    try rfl
  · rintro ⟨i, left, b⟩ ⟨hi, hleft, hbl, h1, h2, h3⟩
    simp only at hi hleft hbl h1 h2 h3
    by_cases hlt : i < plan.length
    · have d1 : decide ((i : Int) < (plan.length : Int)) = true := by simpa using hlt
      have gi := wrs_get hlt
      have hm : plan.getD i (0, []) ∈ plan := by simp [List.getD, List.getElem?_eq_getElem hlt]
      obtain ⟨p1, p2⟩ := hp _ hm
      have hdrop : plan.drop i = plan.getD i (0, []) :: plan.drop (i + 1) := by
        rw [List.drop_eq_getElem_cons hlt]; simp [List.getD, List.getElem?_eq_getElem hlt]
      rw [hdrop] at h1 h2 h3
      generalize hx : plan.getD i (0, []) = x at *
      obtain ⟨k, data⟩ := x
      simp only at p1 p2 gi
      by_cases hl0 : left = 0
      · subst hl0
        have k1 : (((0 : Nat) : Int) == 0) = true := rfl
        simp only [doD, if_true] at h1 h2 h3
        have h3' : r.2.2 = i := by omega
        (repeat (first | refine awp_seq ?_ | refine awp_block ?_ | ((first | refine awp_skip ?_ | refine awp_exit ?_ | refine awp_reg ttok ?_ | (refine awp_draw ttok ?dr_calm ?_; (case dr_calm => decide +kernel)) | refine awp_condM ?_); simp (maxSteps := 4000000) only [↓reduceIte, Nat.reduceLT, Nat.reduceEqDiff, reduceCtorEq, Nat.reduceAdd, Nat.reduceMul, Int.reduceLE, Int.reduceLT, Int.reduceToNat, Nat.reduceLeDiff, Nat.reduceSub, Int.reduceEq, Nat.reduceBEq, List.replicate, List.set, if_false, if_true, ne_eq, false_implies, implies_true, evA, tyA, d1, wrs_len, gi, k1]; (repeat (with_reducible refine And.intro ?_ ?_; focus ((repeat' with_reducible apply And.intro) <;> (first | omega | with_reducible trivial | with_reducible assumption)))); (with_reducible first | refine awp_id ?_ | refine id_call ?_ | refine id_and ?_ | refine id_ex ?_ | refine id_all ?_ | refine id_le ?_))))
        exact awp_ret (endsM [0, 1] (.inr rfl) (by simp (maxSteps := 4000000) only [↓reduceIte, Nat.reduceLT, Nat.reduceEqDiff, reduceCtorEq, Nat.reduceAdd, Nat.reduceMul, Int.reduceLE, Int.reduceLT, Int.reduceToNat, Nat.reduceLeDiff, Nat.reduceSub, Int.reduceEq, Nat.reduceBEq, List.replicate, List.set, if_false, if_true, ne_eq, false_implies, implies_true, evA, ← h1]) (by simp (maxSteps := 4000000) only [↓reduceIte, Nat.reduceLT, Nat.reduceEqDiff, reduceCtorEq, Nat.reduceAdd, Nat.reduceMul, Int.reduceLE, Int.reduceLT, Int.reduceToNat, Nat.reduceLeDiff, Nat.reduceSub, Int.reduceEq, Nat.reduceBEq, List.replicate, List.set, if_false, if_true, ne_eq, false_implies, implies_true, evA, ← h2, h3']))
      · have k1 : ((left : Int) == 0) = false := by rw [beq_eq_false_iff_ne]; omega
        by_cases h32 : left < 32
        · have hmin : (if (32 : Int) < (left : Int) then (32 : Int) else (left : Int)) = ((left : Nat) : Int) := by omega
          have hcl : clamp (left : Int) = left := by unfold clamp; omega
          have hc := c_dPut false b (w + i) k data left hbl p1 p2 (by omega) (by omega)
          rw [hcl] at hc
          have hsub : IntKind.i64.wrap ((left : Int) - (left : Int)) = 0 := by rw [Int.sub_self]; rfl
          have d2 : decide ((left : Int) < 32) = true := by simp; omega
          simp only [doD, hl0, if_false, h32, if_true] at h1 h2 h3
          have h3' : w + (i : Int) + 1 = w + (r.2.2 : Nat) := by omega
          (repeat (first | refine awp_seq ?_ | refine awp_block ?_ | ((first | refine awp_skip ?_ | refine awp_exit ?_ | refine awp_reg ttok ?_ | (refine awp_draw ttok ?dr_calm ?_; (case dr_calm => decide +kernel)) | refine awp_condM ?_); simp (maxSteps := 4000000) only [↓reduceIte, Nat.reduceLT, Nat.reduceEqDiff, reduceCtorEq, Nat.reduceAdd, Nat.reduceMul, Int.reduceLE, Int.reduceLT, Int.reduceToNat, Nat.reduceLeDiff, Nat.reduceSub, Int.reduceEq, Nat.reduceBEq, List.replicate, List.set, if_false, if_true, ne_eq, false_implies, implies_true, evA, tyA, d1, wrs_len, gi, k1, hmin]; (repeat (with_reducible refine And.intro ?_ ?_; focus ((repeat' with_reducible apply And.intro) <;> (first | omega | with_reducible trivial | with_reducible assumption)))); (with_reducible first | refine awp_id ?_ | refine id_call ?_ | refine id_and ?_ | refine id_ex ?_ | refine id_all ?_ | refine id_le ?_))))
          refine callVC_M [0, 1] fnok21 hc (by simp (maxSteps := 4000000) only [↓reduceIte, Nat.reduceLT, Nat.reduceEqDiff, reduceCtorEq, Nat.reduceAdd, Nat.reduceMul, Int.reduceLE, Int.reduceLT, Int.reduceToNat, Nat.reduceLeDiff, Nat.reduceSub, Int.reduceEq, Nat.reduceBEq, List.replicate, List.set, if_false, if_true, ne_eq, false_implies, implies_true, evA]; rfl) (by simp (maxSteps := 4000000) only [↓reduceIte, Nat.reduceLT, Nat.reduceEqDiff, reduceCtorEq, Nat.reduceAdd, Nat.reduceMul, Int.reduceLE, Int.reduceLT, Int.reduceToNat, Nat.reduceLeDiff, Nat.reduceSub, Int.reduceEq, Nat.reduceBEq, List.replicate, List.set, if_false, if_true, ne_eq, false_implies, implies_true, evA]) ?_
          simp (maxSteps := 4000000) only [↓reduceIte, Nat.reduceLT, Nat.reduceEqDiff, reduceCtorEq, Nat.reduceAdd, Nat.reduceMul, Int.reduceLE, Int.reduceLT, Int.reduceToNat, Nat.reduceLeDiff, Nat.reduceSub, Int.reduceEq, Nat.reduceBEq, List.replicate, List.set, if_false, if_true, ne_eq, false_implies, implies_true, evA, tyA]
          (repeat (with_reducible refine And.intro ?_ ?_; focus ((repeat' with_reducible apply And.intro) <;> (first | omega | with_reducible trivial | with_reducible assumption))))
          (repeat (first | refine awp_seq ?_ | refine awp_block ?_ | ((first | refine awp_skip ?_ | refine awp_exit ?_ | refine awp_reg ttok ?_ | (refine awp_draw ttok ?dr_calm ?_; (case dr_calm => decide +kernel)) | refine awp_condM ?_); simp (maxSteps := 4000000) only [↓reduceIte, Nat.reduceLT, Nat.reduceEqDiff, reduceCtorEq, Nat.reduceAdd, Nat.reduceMul, Int.reduceLE, Int.reduceLT, Int.reduceToNat, Nat.reduceLeDiff, Nat.reduceSub, Int.reduceEq, Nat.reduceBEq, List.replicate, List.set, if_false, if_true, ne_eq, false_implies, implies_true, evA, tyA, hsub, d2]; (repeat (with_reducible refine And.intro ?_ ?_; focus ((repeat' with_reducible apply And.intro) <;> (first | omega | with_reducible trivial | with_reducible assumption)))); (with_reducible first | refine awp_id ?_ | refine id_call ?_ | refine id_and ?_ | refine id_ex ?_ | refine id_all ?_ | refine id_le ?_))))
          exact awp_ret (endsM [0, 1] (.inr rfl) (by simp (maxSteps := 4000000) only [↓reduceIte, Nat.reduceLT, Nat.reduceEqDiff, reduceCtorEq, Nat.reduceAdd, Nat.reduceMul, Int.reduceLE, Int.reduceLT, Int.reduceToNat, Nat.reduceLeDiff, Nat.reduceSub, Int.reduceEq, Nat.reduceBEq, List.replicate, List.set, if_false, if_true, ne_eq, false_implies, implies_true, evA, ← h1]) (by simp (maxSteps := 4000000) only [↓reduceIte, Nat.reduceLT, Nat.reduceEqDiff, reduceCtorEq, Nat.reduceAdd, Nat.reduceMul, Int.reduceLE, Int.reduceLT, Int.reduceToNat, Nat.reduceLeDiff, Nat.reduceSub, Int.reduceEq, Nat.reduceBEq, List.replicate, List.set, if_false, if_true, ne_eq, false_implies, implies_true, evA, ← h2, h3']))
        · have hmin : (if (32 : Int) < (left : Int) then (32 : Int) else (left : Int)) = 32 := by omega
          have hcl : clamp 32 = 32 := rfl
          have hc := c_dPut false b (w + i) k data 32 hbl p1 p2 (by omega) (by omega)
          rw [hcl] at hc
          obtain ⟨i', hi'⟩ : ∃ i', i' = i + 1 := ⟨_, rfl⟩
          obtain ⟨left', hl'⟩ : ∃ left', left' = left - 32 := ⟨_, rfl⟩
          have hwi : IntKind.i64.wrap ((i : Int) + 1) = (i' : Int) := by rw [hi']; exact i64_in (by omega) (by omega)
          have hsub : IntKind.i64.wrap ((left : Int) - 32) = (left' : Int) := by rw [i64_in (by omega) (by omega)]; omega
          have hwn : w + (i : Int) + 1 = w + (i' : Int) := by omega
          have hpl := putAt_len (data := data) hbl p1 p2 (Nat.le_refl 32)
          simp only [doD, hl0, if_false, h32] at h1 h2 h3
          rw [← hl', ← hi'] at h1 h2 h3
          (repeat (first | refine awp_seq ?_ | refine awp_block ?_ | ((first | refine awp_skip ?_ | refine awp_exit ?_ | refine awp_reg ttok ?_ | (refine awp_draw ttok ?dr_calm ?_; (case dr_calm => decide +kernel)) | refine awp_condM ?_); simp (maxSteps := 4000000) only [↓reduceIte, Nat.reduceLT, Nat.reduceEqDiff, reduceCtorEq, Nat.reduceAdd, Nat.reduceMul, Int.reduceLE, Int.reduceLT, Int.reduceToNat, Nat.reduceLeDiff, Nat.reduceSub, Int.reduceEq, Nat.reduceBEq, List.replicate, List.set, if_false, if_true, ne_eq, false_implies, implies_true, evA, tyA, d1, wrs_len, gi, k1, hmin]; (repeat (with_reducible refine And.intro ?_ ?_; focus ((repeat' with_reducible apply And.intro) <;> (first | omega | with_reducible trivial | with_reducible assumption)))); (with_reducible first | refine awp_id ?_ | refine id_call ?_ | refine id_and ?_ | refine id_ex ?_ | refine id_all ?_ | refine id_le ?_))))
          refine callVC_M [0, 1] fnok21 hc (by simp (maxSteps := 4000000) only [↓reduceIte, Nat.reduceLT, Nat.reduceEqDiff, reduceCtorEq, Nat.reduceAdd, Nat.reduceMul, Int.reduceLE, Int.reduceLT, Int.reduceToNat, Nat.reduceLeDiff, Nat.reduceSub, Int.reduceEq, Nat.reduceBEq, List.replicate, List.set, if_false, if_true, ne_eq, false_implies, implies_true, evA]; rfl) (by simp (maxSteps := 4000000) only [↓reduceIte, Nat.reduceLT, Nat.reduceEqDiff, reduceCtorEq, Nat.reduceAdd, Nat.reduceMul, Int.reduceLE, Int.reduceLT, Int.reduceToNat, Nat.reduceLeDiff, Nat.reduceSub, Int.reduceEq, Nat.reduceBEq, List.replicate, List.set, if_false, if_true, ne_eq, false_implies, implies_true, evA]) ?_
          simp (maxSteps := 4000000) only [↓reduceIte, Nat.reduceLT, Nat.reduceEqDiff, reduceCtorEq, Nat.reduceAdd, Nat.reduceMul, Int.reduceLE, Int.reduceLT, Int.reduceToNat, Nat.reduceLeDiff, Nat.reduceSub, Int.reduceEq, Nat.reduceBEq, List.replicate, List.set, if_false, if_true, ne_eq, false_implies, implies_true, evA, tyA]
          (repeat (with_reducible refine And.intro ?_ ?_; focus ((repeat' with_reducible apply And.intro) <;> (first | omega | with_reducible trivial | with_reducible assumption))))
          generalize putAt b k data 32 = b' at *
          (repeat (first | refine awp_seq ?_ | refine awp_block ?_ | ((first | refine awp_skip ?_ | refine awp_exit ?_ | refine awp_reg ttok ?_ | (refine awp_draw ttok ?dr_calm ?_; (case dr_calm => decide +kernel)) | refine awp_condM ?_); simp (maxSteps := 4000000) only [↓reduceIte, Nat.reduceLT, Nat.reduceEqDiff, reduceCtorEq, Nat.reduceAdd, Nat.reduceMul, Int.reduceLE, Int.reduceLT, Int.reduceToNat, Nat.reduceLeDiff, Nat.reduceSub, Int.reduceEq, Nat.reduceBEq, List.replicate, List.set, if_false, if_true, ne_eq, false_implies, implies_true, evA, tyA, hsub, hwi]; (repeat (with_reducible refine And.intro ?_ ?_; focus ((repeat' with_reducible apply And.intro) <;> (first | omega | with_reducible trivial | with_reducible assumption)))); (with_reducible first | refine awp_id ?_ | refine id_call ?_ | refine id_and ?_ | refine id_ex ?_ | refine id_all ?_ | refine id_le ?_))))
          refine ⟨(i', left', b'), ⟨by simp only; omega, by simp only; omega, hpl, h1, h2, by simp only; omega⟩, by simp only; omega, mkS_le rfl ?_ ?_⟩
          · simp (maxSteps := 4000000) only [↓reduceIte, Nat.reduceLT, Nat.reduceEqDiff, reduceCtorEq, Nat.reduceAdd, Nat.reduceMul, Int.reduceLE, Int.reduceLT, Int.reduceToNat, Nat.reduceLeDiff, Nat.reduceSub, Int.reduceEq, Nat.reduceBEq, List.replicate, List.set, if_false, if_true, ne_eq, false_implies, implies_true, evA]
          · simp (maxSteps := 4000000) only [↓reduceIte, Nat.reduceLT, Nat.reduceEqDiff, reduceCtorEq, Nat.reduceAdd, Nat.reduceMul, Int.reduceLE, Int.reduceLT, Int.reduceToNat, Nat.reduceLeDiff, Nat.reduceSub, Int.reduceEq, Nat.reduceBEq, List.replicate, List.set, if_false, if_true, ne_eq, false_implies, implies_true, evA, hwn]
    · have d1 : decide ((i : Int) < (plan.length : Int)) = false := by simpa using hlt
      obtain rfl : i = plan.length := by omega
      rw [List.drop_length] at h1 h2 h3
      simp only [doD] at h1 h2 h3
      have h3' : r.2.2 = plan.length := by omega
      (repeat (first | refine awp_seq ?_ | refine awp_block ?_ | ((first | refine awp_skip ?_ | refine awp_exit ?_ | refine awp_reg ttok ?_ | (refine awp_draw ttok ?dr_calm ?_; (case dr_calm => decide +kernel)) | refine awp_condM ?_); simp (maxSteps := 4000000) only [↓reduceIte, Nat.reduceLT, Nat.reduceEqDiff, reduceCtorEq, Nat.reduceAdd, Nat.reduceMul, Int.reduceLE, Int.reduceLT, Int.reduceToNat, Nat.reduceLeDiff, Nat.reduceSub, Int.reduceEq, Nat.reduceBEq, List.replicate, List.set, if_false, if_true, ne_eq, false_implies, implies_true, evA, tyA, d1]; (repeat (with_reducible refine And.intro ?_ ?_; focus ((repeat' with_reducible apply And.intro) <;> (first | omega | with_reducible trivial | with_reducible assumption)))); (with_reducible first | refine awp_id ?_ | refine id_call ?_ | refine id_and ?_ | refine id_ex ?_ | refine id_all ?_ | refine id_le ?_))))
      exact awp_ret (endsM [0, 1] (.inr rfl) (by simp (maxSteps := 4000000) only [↓reduceIte, Nat.reduceLT, Nat.reduceEqDiff, reduceCtorEq, Nat.reduceAdd, Nat.reduceMul, Int.reduceLE, Int.reduceLT, Int.reduceToNat, Nat.reduceLeDiff, Nat.reduceSub, Int.reduceEq, Nat.reduceBEq, List.replicate, List.set, if_false, if_true, ne_eq, false_implies, implies_true, evA, ← h1]) (by simp (maxSteps := 4000000) only [↓reduceIte, Nat.reduceLT, Nat.reduceEqDiff, reduceCtorEq, Nat.reduceAdd, Nat.reduceMul, Int.reduceLE, Int.reduceLT, Int.reduceToNat, Nat.reduceLeDiff, Nat.reduceSub, Int.reduceEq, Nat.reduceBEq, List.replicate, List.set, if_false, if_true, ne_eq, false_implies, implies_true, evA, ← h2, h3']))

theorem ext_getD {l m : List UInt8} (h : l.length = m.length) (e : ∀ j, j < l.length → l.getD j 0 = m.getD j 0) : l = m := by
  apply List.ext_getElem h
  intro j h1 h2
  have := e j h1
  simpa [List.getD, List.getElem?_eq_getElem h1, List.getElem?_eq_getElem h2] using this
theorem getD_app (l m : List UInt8) (j : Nat) : (l ++ m).getD j 0 = if j < l.length then l.getD j 0 else m.getD (j - l.length) 0 := by
  simp only [List.getD, List.getElem?_append]
  split <;> rfl
theorem getD_take (l : List UInt8) (n j : Nat) : (l.take n).getD j 0 = if j < n then l.getD j 0 else 0 := by
  simp only [List.getD, List.getElem?_take]
  split <;> rfl
theorem getD_drop (l : List UInt8) (n j : Nat) : (l.drop n).getD j 0 = l.getD (n + j) 0 := by
  simp only [List.getD, List.getElem?_drop]
theorem getD_far {l : List UInt8} {j : Nat} (h : l.length ≤ j) : l.getD j 0 = 0 := by
  simp [List.getD, List.getElem?_eq_none h]
theorem mz_at (m : List UInt8) (j : Nat) : (mz m).getD j 0 = m.getD j 0 := by
  rw [mz, getD_app]
  split
  · rfl
  · rename_i h; rw [zer_get, getD_far (by omega)]

theorem putAt_mid {pre b post : List UInt8} {k o c : Nat} {data : List UInt8} (hk : 32 * k = pre.length + o) (hc : c ≤ data.length) (ho : o + c ≤ b.length) : putAt (pre ++ b ++ post) k data c = pre ++ (b.take o ++ (data.take c ++ b.drop (o + c))) ++ post := by
  rw [putAt, hk]
  have e1 : (pre ++ b ++ post).take (pre.length + o) = pre ++ b.take o := by
    rw [List.append_assoc, List.take_append, List.take_of_length_le (by omega), Nat.add_sub_cancel_left, List.take_append_of_le_length (by omega)]
  have e2 : (pre ++ b ++ post).drop (pre.length + o + c) = b.drop (o + c) ++ post := by
    rw [List.append_assoc, List.drop_append, List.drop_of_length_le (by omega), List.nil_append, show pre.length + o + c - pre.length = o + c by omega, List.drop_append_of_le_length (by omega)]
  rw [e1, e2]
  simp [List.append_assoc]

theorem blks_cons (A : Nat) (M : List UInt8) (fr k : Nat) : blks A M fr (k + 1) = (32 * A + 1 + fr, blkB M fr) :: blks A M (fr + 1) k := by
  simp only [blks, List.range_succ_eq_map, List.map_cons, List.map_map, Nat.add_zero, List.cons.injEq, true_and]
  apply List.map_congr_left
  intro j _
  simp only [Function.comp, Nat.succ_eq_add_one]
  rw [show fr + (j + 1) = fr + 1 + j by omega]

theorem doD_blks (A : Nat) (M : List UInt8) (hM : M.length = 992) (pre post : List UInt8) (hpre : pre.length = 1024 * A + 32) : ∀ (cnt fr left : Nat) (b : List UInt8), fr + cnt ≤ 31 → b.length = 992 →
    (doD (blks A M fr cnt) left (pre ++ b ++ post)).1 = decide (32 * cnt ≤ left) ∧
    (doD (blks A M fr cnt) left (pre ++ b ++ post)).2.1 = pre ++ (b.take (32 * fr) ++ ((M.drop (32 * fr)).take (min left (32 * cnt)) ++ b.drop (32 * fr + min left (32 * cnt)))) ++ post
  | 0, fr, left, b, h, hb => by
    simp [blks, doD]
  | cnt + 1, fr, left, b, h, hb => by
    rw [blks_cons]
    have hbl := blkB_len (i := fr) hM (by omega)
    have hk : 32 * (32 * A + 1 + fr) = pre.length + 32 * fr := by omega
    by_cases h0 : left = 0
    · subst h0
      simp [doD]
    · by_cases h32 : left < 32
      · have hp := putAt_mid (pre := pre) (b := b) (post := post) (data := blkB M fr) (c := left) hk (by omega) (by omega)
        have e : (blkB M fr).take left = (M.drop (32 * fr)).take left := by rw [blkB, List.take_take, Nat.min_eq_left (by omega)]
        rw [e] at hp
        simp only [doD, h0, if_false, h32, if_true]
        refine ⟨by simp; omega, ?_⟩
        rw [hp, show min left (32 * (cnt + 1)) = left by omega]
      · have hp := putAt_mid (pre := pre) (b := b) (post := post) (data := blkB M fr) (c := 32) hk (by omega) (by omega)
        have e : (blkB M fr).take 32 = (M.drop (32 * fr)).take 32 := by rw [blkB, List.take_take, Nat.min_self]
        rw [e] at hp
        simp only [doD, h0, if_false, h32]
        rw [hp]
        have hb' : (b.take (32 * fr) ++ ((M.drop (32 * fr)).take 32 ++ b.drop (32 * fr + 32))).length = 992 := by simp; omega
        obtain ⟨g1, g2⟩ := doD_blks A M hM pre post hpre cnt (fr + 1) (left - 32) _ (by omega) hb'
        rw [g1, g2]
        refine ⟨by congr 1; rw [eq_iff_iff]; omega, ?_⟩
        congr 2
        have hc : min left (32 * (cnt + 1)) = min (left - 32) (32 * cnt) + 32 := by omega
        rw [hc]
        generalize min (left - 32) (32 * cnt) = c at *
        by_cases hcc : 32 * fr + 32 + c ≤ 992
        · apply ext_getD
          · simp only [List.length_append, List.length_take, List.length_drop] at hb' ⊢; omega
          · intro j _
            simp only [getD_app, getD_take, getD_drop, List.length_append, List.length_take, List.length_drop, hb, hM]
            repeat' split
            all_goals first | omega | (congr 1; omega) | rfl
        · apply ext_getD
          · simp only [List.length_append, List.length_take, List.length_drop] at hb' ⊢; omega
          · intro j _
            simp only [getD_app, getD_take, getD_drop, List.length_append, List.length_take, List.length_drop, hb, hM]
            repeat' split
            all_goals first | omega | (congr 1; omega) | rfl

theorem doD_app : ∀ (l ws : List (Nat × List UInt8)) (left : Nat) (m : List UInt8), 32 * l.length ≤ left → (doD (l ++ ws) left m).1 = (doD ws (left - 32 * l.length) (doD l left m).2.1).1 ∧ (doD (l ++ ws) left m).2.1 = (doD ws (left - 32 * l.length) (doD l left m).2.1).2.1
  | [], ws, left, m, _ => by simp [doD]
  | w :: l, ws, left, m, h => by
    simp only [List.length_cons] at h
    have ih := doD_app l ws (left - 32) (putAt m w.1 w.2 32) (by omega)
    have h0 : ¬ left = 0 := by omega
    have h32 : ¬ left < 32 := by omega
    simp only [List.cons_append, doD, h0, h32, if_false, List.length_cons]
    rw [show left - 32 * (l.length + 1) = left - 32 - 32 * l.length by omega]
    exact ih
theorem doD_cut : ∀ (l ws : List (Nat × List UInt8)) (left : Nat) (m : List UInt8), left < 32 * l.length → (doD (l ++ ws) left m).1 = false ∧ (doD (l ++ ws) left m).2.1 = (doD l left m).2.1
  | [], ws, left, m, h => by simp at h
  | w :: l, ws, left, m, h => by
    simp only [List.length_cons] at h
    simp only [List.cons_append, doD]
    by_cases h0 : left = 0
    · simp [h0]
    · by_cases h32 : left < 32
      · simp [h0, h32]
      · have ih := doD_cut l ws (left - 32) (putAt m w.1 w.2 32) (by omega)
        simp only [h0, h32, if_false]
        exact ih

/-- A disk: its two areas, each with its first block and the others. -/
def dsk (h0 b0 h1 b1 : List UInt8) : List UInt8 := h0 ++ b0 ++ h1 ++ b1
structure DOk (h0 b0 h1 b1 : List UInt8) : Prop where
  l0 : h0.length = 32
  l1 : b0.length = 992
  l2 : h1.length = 32
  l3 : b1.length = 992
theorem DOk.len {h0 b0 h1 b1 : List UInt8} (h : DOk h0 b0 h1 b1) : (dsk h0 b0 h1 b1).length = 2048 := by
  simp [dsk, h.l0, h.l1, h.l2, h.l3]
theorem dsk_r0 {h0 b0 h1 b1 : List UInt8} (h : DOk h0 b0 h1 b1) : ((dsk h0 b0 h1 b1).drop (32 * 0)).take 32 = h0 := by
  have := h.l0
  simp only [dsk, List.append_assoc, Nat.mul_zero, List.drop_zero]
  rw [List.take_append_of_le_length (by omega), List.take_of_length_le (by omega)]
theorem dsk_a0 {h0 b0 h1 b1 : List UInt8} (h : DOk h0 b0 h1 b1) : ((dsk h0 b0 h1 b1).drop (1024 * 0 + 32)).take 992 = b0 := by
  have := h.l0; have := h.l1
  simp only [dsk, List.append_assoc]
  rw [List.drop_append, List.drop_of_length_le (by omega), List.nil_append, show 1024 * 0 + 32 - h0.length = 0 by omega, List.drop_zero, List.take_append_of_le_length (by omega), List.take_of_length_le (by omega)]
theorem dsk_r1 {h0 b0 h1 b1 : List UInt8} (h : DOk h0 b0 h1 b1) : ((dsk h0 b0 h1 b1).drop (32 * 32)).take 32 = h1 := by
  have := h.l0; have := h.l1; have := h.l2
  rw [dsk, List.append_assoc, List.drop_append, List.drop_of_length_le (by simp; omega), List.nil_append, show 32 * 32 - (h0 ++ b0).length = 0 by simp; omega, List.drop_zero, List.take_append_of_le_length (by omega), List.take_of_length_le (by omega)]
theorem dsk_a1 {h0 b0 h1 b1 : List UInt8} (h : DOk h0 b0 h1 b1) : ((dsk h0 b0 h1 b1).drop (1024 * 1 + 32)).take 992 = b1 := by
  have := h.l0; have := h.l1; have := h.l2; have := h.l3
  rw [dsk, List.drop_append, List.drop_of_length_le (by simp; omega), List.nil_append, show 1024 * 1 + 32 - (h0 ++ b0 ++ h1).length = 0 by simp; omega, List.drop_zero, List.take_of_length_le (by omega)]

/-- Blocks written within the first, the second area. -/
theorem doD_b0 {h0 b0 h1 b1 : List UInt8} (h : DOk h0 b0 h1 b1) {M : List UInt8} (hM : M.length = 992) {fr cnt left : Nat} (hf : fr + cnt ≤ 31) :
    (doD (blks 0 M fr cnt) left (dsk h0 b0 h1 b1)).1 = decide (32 * cnt ≤ left) ∧
    (doD (blks 0 M fr cnt) left (dsk h0 b0 h1 b1)).2.1 = dsk h0 (b0.take (32 * fr) ++ ((M.drop (32 * fr)).take (min left (32 * cnt)) ++ b0.drop (32 * fr + min left (32 * cnt)))) h1 b1 := by
  have e : ∀ b, dsk h0 b h1 b1 = h0 ++ b ++ (h1 ++ b1) := fun b => by simp [dsk]
  rw [e, e]
  exact doD_blks 0 M hM h0 (h1 ++ b1) (by have := h.l0; omega) cnt fr left b0 hf h.l1
theorem doD_b1 {h0 b0 h1 b1 : List UInt8} (h : DOk h0 b0 h1 b1) {M : List UInt8} (hM : M.length = 992) {fr cnt left : Nat} (hf : fr + cnt ≤ 31) :
    (doD (blks 1 M fr cnt) left (dsk h0 b0 h1 b1)).1 = decide (32 * cnt ≤ left) ∧
    (doD (blks 1 M fr cnt) left (dsk h0 b0 h1 b1)).2.1 = dsk h0 b0 h1 (b1.take (32 * fr) ++ ((M.drop (32 * fr)).take (min left (32 * cnt)) ++ b1.drop (32 * fr + min left (32 * cnt)))) := by
  have e : ∀ b, dsk h0 b0 h1 b = (h0 ++ b0 ++ h1) ++ b ++ [] := fun b => by simp [dsk]
  rw [e, e]
  exact doD_blks 1 M hM (h0 ++ b0 ++ h1) [] (by have := h.l0; have := h.l1; have := h.l2; simp; omega) cnt fr left b1 hf h.l3

/-- An area's beginning written, so many bytes. -/
theorem doD_plan0 {h0 b0 h1 b1 : List UInt8} (h : DOk h0 b0 h1 b1) {G : BitVec 32} {P : List UInt8} (hP : (frameOf P).length ≤ 992) (left : Nat) :
    (doD (planW 0 G P) left (dsk h0 b0 h1 b1)).1 = decide (1024 ≤ left) ∧
    (doD (planW 0 G P) left (dsk h0 b0 h1 b1)).2.1 = if left < 992 then dsk h0 ((mz (frameOf P)).take left ++ b0.drop left) h1 b1 else dsk ((headB G).take (left - 992) ++ h0.drop (left - 992)) (mz (frameOf P)) h1 b1 := by
  have hM := mz_len hP
  have hbl := blks_len 0 (mz (frameOf P)) 0 31
  obtain ⟨g1, g2⟩ := doD_b0 h hM (fr := 0) (cnt := 31) (left := left) (by omega)
  have hhl := headB_len G
  by_cases hl : left < 992
  · obtain ⟨q1, q2⟩ := doD_cut (blks 0 (mz (frameOf P)) 0 31) [(32 * 0, headB G)] left (dsk h0 b0 h1 b1) (by omega)
    rw [planW, q1, q2, g2, if_pos hl, show min left (32 * 31) = left by omega]
    refine ⟨by simp; omega, by simp⟩
  · obtain ⟨q1, q2⟩ := doD_app (blks 0 (mz (frameOf P)) 0 31) [(32 * 0, headB G)] left (dsk h0 b0 h1 b1) (by omega)
    have e : (doD (blks 0 (mz (frameOf P)) 0 31) left (dsk h0 b0 h1 b1)).2.1 = dsk h0 (mz (frameOf P)) h1 b1 := by
      have := h.l1
      rw [g2, show min left (32 * 31) = 992 by omega]
      simp only [Nat.mul_zero, List.take_zero, List.drop_zero, List.nil_append, Nat.zero_add]
      rw [List.take_of_length_le (by omega), List.drop_of_length_le (by omega), List.append_nil]
    rw [planW, q1, q2, e, hbl, if_neg hl]
    have hp : ∀ c, c ≤ 32 → putAt (dsk h0 (mz (frameOf P)) h1 b1) (32 * 0) (headB G) c = dsk ((headB G).take c ++ h0.drop c) (mz (frameOf P)) h1 b1 := fun c hc => by
      have := putAt_mid (pre := []) (b := h0) (post := mz (frameOf P) ++ h1 ++ b1) (k := 32 * 0) (o := 0) (c := c) (data := headB G) rfl (by omega) (by have := h.l0; omega)
      simpa [dsk] using this
    by_cases hx : left - 32 * 31 = 0
    · rw [show left = 992 by omega]
      simp [doD]
    · by_cases hx2 : left - 32 * 31 < 32
      · simp only [doD, hx, hx2, if_false, if_true]
        refine ⟨by simp; omega, ?_⟩
        rw [hp _ (by omega), show left - 32 * 31 = left - 992 by omega]
      · simp only [doD, hx, hx2, if_false]
        refine ⟨by simp; omega, ?_⟩
        have hz := h.l0
        rw [hp 32 (by omega)]
        rw [List.take_of_length_le (by omega), List.take_of_length_le (by omega), List.drop_of_length_le (by omega), List.drop_of_length_le (by omega)]
theorem doD_plan1 {h0 b0 h1 b1 : List UInt8} (h : DOk h0 b0 h1 b1) {G : BitVec 32} {P : List UInt8} (hP : (frameOf P).length ≤ 992) (left : Nat) :
    (doD (planW 1 G P) left (dsk h0 b0 h1 b1)).1 = decide (1024 ≤ left) ∧
    (doD (planW 1 G P) left (dsk h0 b0 h1 b1)).2.1 = if left < 992 then dsk h0 b0 h1 ((mz (frameOf P)).take left ++ b1.drop left) else dsk h0 b0 ((headB G).take (left - 992) ++ h1.drop (left - 992)) (mz (frameOf P)) := by
  have hM := mz_len hP
  have hbl := blks_len 1 (mz (frameOf P)) 0 31
  obtain ⟨g1, g2⟩ := doD_b1 h hM (fr := 0) (cnt := 31) (left := left) (by omega)
  have hhl := headB_len G
  by_cases hl : left < 992
  · obtain ⟨q1, q2⟩ := doD_cut (blks 1 (mz (frameOf P)) 0 31) [(32 * 1, headB G)] left (dsk h0 b0 h1 b1) (by omega)
    rw [planW, q1, q2, g2, if_pos hl, show min left (32 * 31) = left by omega]
    refine ⟨by simp; omega, by simp⟩
  · obtain ⟨q1, q2⟩ := doD_app (blks 1 (mz (frameOf P)) 0 31) [(32 * 1, headB G)] left (dsk h0 b0 h1 b1) (by omega)
    have e : (doD (blks 1 (mz (frameOf P)) 0 31) left (dsk h0 b0 h1 b1)).2.1 = dsk h0 b0 h1 (mz (frameOf P)) := by
      have := h.l3
      rw [g2, show min left (32 * 31) = 992 by omega]
      simp only [Nat.mul_zero, List.take_zero, List.drop_zero, List.nil_append, Nat.zero_add]
      rw [List.take_of_length_le (by omega), List.drop_of_length_le (by omega), List.append_nil]
    rw [planW, q1, q2, e, hbl, if_neg hl]
    have hp : ∀ c, c ≤ 32 → putAt (dsk h0 b0 h1 (mz (frameOf P))) (32 * 1) (headB G) c = dsk h0 b0 ((headB G).take c ++ h1.drop c) (mz (frameOf P)) := fun c hc => by
      have := putAt_mid (pre := h0 ++ b0) (b := h1) (post := mz (frameOf P)) (k := 32 * 1) (o := 0) (c := c) (data := headB G) (by have := h.l0; have := h.l1; simp; omega) (by omega) (by have := h.l2; omega)
      simpa [dsk] using this
    by_cases hx : left - 32 * 31 = 0
    · rw [show left = 992 by omega]
      simp [doD]
    · by_cases hx2 : left - 32 * 31 < 32
      · simp only [doD, hx, hx2, if_false, if_true]
        refine ⟨by simp; omega, ?_⟩
        rw [hp _ (by omega), show left - 32 * 31 = left - 992 by omega]
      · simp only [doD, hx, hx2, if_false]
        refine ⟨by simp; omega, ?_⟩
        have hz := h.l2
        rw [hp 32 (by omega)]
        rw [List.take_of_length_le (by omega), List.take_of_length_le (by omega), List.drop_of_length_le (by omega), List.drop_of_length_le (by omega)]

/-- A frame written behind what is there, so many bytes. -/
theorem mz_torn {m F : List UInt8} (h : m.length + F.length ≤ 992) {fr cnt left : Nat} (hfr : fr = m.length / 32) (hcnt : cnt = (m.length + F.length + 31) / 32 - fr) :
    (mz m).take (32 * fr) ++ (((mz (m ++ F)).drop (32 * fr)).take (min left (32 * cnt)) ++ (mz m).drop (32 * fr + min left (32 * cnt))) = mz (m ++ F.take (32 * fr + min left (32 * cnt) - m.length)) := by
  have l1 := mz_len (m := m) (by omega)
  have l2 := mz_len (m := m ++ F) (by simp; omega)
  have l3 := mz_len (m := m ++ F.take (32 * fr + min left (32 * cnt) - m.length)) (by simp; omega)
  generalize hc : min left (32 * cnt) = c at *
  have hcc : 32 * fr + c ≤ 992 := by omega
  apply ext_getD
  · simp only [List.length_append, List.length_take, List.length_drop]; omega
  · intro j hj
    simp only [List.length_append, List.length_take, List.length_drop] at hj
    simp only [getD_app, getD_take, getD_drop, List.length_append, List.length_take, List.length_drop, mz_at, l1, l2]
    repeat' split
    all_goals first | omega | rfl | (congr 1; omega) | (rw [getD_far (by omega)]) | skip

end Go.Proofs.Ytmfonlkigjpjcaa
