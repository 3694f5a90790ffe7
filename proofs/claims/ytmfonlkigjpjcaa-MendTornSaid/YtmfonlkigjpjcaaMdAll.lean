/-
  The contracts of frame.All, journal.All of what may be written on.
-/
import Derived.Test.YtmfonlkigjpjcaaJn4
import Derived.Test.YtmfonlkigjpjcaaJnT
namespace Go.Proofs.Ytmfonlkigjpjcaa
open Go.Ab
set_option linter.unusedSimpArgs false
set_option linter.unusedVariables false

set_option maxHeartbeats 8000000 in
theorem c_fAllGM (xs : List (List UInt8)) (t : List UInt8) (hx : ∀ x ∈ xs, 0 < x.length ∧ x.length ≤ 400) (hn : xs.length ≤ 1000) (htl : t.length ≤ 10000) (hend : ∃ e : Int, (e != 0) = true ∧ Contract Try.prog 51 [.sl false (bys (frs xs ++ t)), i64 (frs xs).length] (.tup [.sl true [], i64 0, i64 e]) []) :
    ContractM Try.prog 46 [{ sz := 1, rows := bys (frs xs ++ t) }] [.own 0 0 (frs xs ++ t).length] (.tup [.own 1 0 xs.length, i64 (frs xs).length]) [some { sz := 1, rows := bys (frs xs ++ t) }, some { sz := 1, rows := bss xs }] := by
  refine contractM_of_awp (rs := [2, 3]) Try.func46 rfl Try.ntmps46 (by simp) rfl fun E => ?_
  have hfl : ∀ ys : List (List UInt8), (∀ x ∈ ys, x.length ≤ 400) → ys.length ≤ 1000 → (frs ys).length ≤ 407000 := fun ys hy hl => by
    have := frs_len ys hy; omega
  have hfx := hfl xs (fun x hm => (hx x hm).2) hn
  have hbl : (frs xs ++ t).length ≤ 1000000 := by simp; omega
  (repeat (first | refine awp_seq ?_ | refine awp_block ?_ | ((first | refine awp_skip ?_ | refine awp_exit ?_ | refine awp_reg ttok ?_ | (refine awp_draw ttok ?dr_calm ?_; (case dr_calm => decide +kernel)) | refine awp_condM ?_); simp (maxSteps := 4000000) only [↓reduceIte, Nat.reduceLT, Nat.reduceEqDiff, reduceCtorEq, Nat.reduceAdd, Nat.reduceMul, Int.reduceLE, Int.reduceLT, Int.reduceToNat, Nat.reduceLeDiff, Nat.reduceSub, Int.reduceEq, Nat.reduceBEq, List.replicate, List.set, if_false, if_true, ne_eq, false_implies, implies_true, evA, tyA]; (repeat (with_reducible refine And.intro ?_ ?_; focus ((repeat' with_reducible apply And.intro) <;> (first | omega | with_reducible trivial | with_reducible assumption)))); (with_reducible first | refine awp_id ?_ | refine id_call ?_ | refine id_and ?_ | refine id_ex ?_ | refine id_all ?_ | refine id_le ?_))))
  refine awp_own_nil 4 9000 1 (by simp (maxSteps := 4000000) only [↓reduceIte, Nat.reduceLT, Nat.reduceEqDiff, reduceCtorEq, Nat.reduceAdd, Nat.reduceMul, Int.reduceLE, Int.reduceLT, Int.reduceToNat, Nat.reduceLeDiff, Nat.reduceSub, Int.reduceEq, Nat.reduceBEq, List.replicate, List.set, if_false, if_true, ne_eq, false_implies, implies_true, evA]) (by decide) ?_
  refine awp_loop (X := Nat) (fun k => mkS 25 [(0, .own 0 0 (frs xs ++ t).length), (4, .own 9000 0 k), (5, i64 (frs (xs.take k)).length)] [(0, { sz := 1, rows := bys (frs xs ++ t), pin := true }), (9000, { sz := 1, rows := bss (xs.take k) })]) (fun k => k ≤ xs.length) (fun k => xs.length - k) 0 (by omega) (mkS_le rfl ?_ ?_) ?_
  · simp (maxSteps := 4000000) only [↓reduceIte, Nat.reduceLT, Nat.reduceEqDiff, reduceCtorEq, Nat.reduceAdd, Nat.reduceMul, Int.reduceLE, Int.reduceLT, Int.reduceToNat, Nat.reduceLeDiff, Nat.reduceSub, Int.reduceEq, Nat.reduceBEq, List.replicate, List.set, if_false, if_true, ne_eq, false_implies, implies_true, evA, St.toOwn, frs, List.flatMap_nil, AObj.pinned]
    try rfl
  · simp (maxSteps := 4000000) only [↓reduceIte, Nat.reduceLT, Nat.reduceEqDiff, reduceCtorEq, Nat.reduceAdd, Nat.reduceMul, Int.reduceLE, Int.reduceLT, Int.reduceToNat, Nat.reduceLeDiff, Nat.reduceSub, Int.reduceEq, Nat.reduceBEq, List.replicate, List.set, if_false, if_true, ne_eq, false_implies, implies_true, evA, St.toOwn, bss, AObj.pinned]
    try rfl
  · intro k hk
    have htk : (xs.take k).length = k := by simp; omega
    have hfk := hfl (xs.take k) (fun x hm => (hx x (List.mem_of_mem_take hm)).2) (by omega)
    by_cases hlt : k < xs.length
    · obtain ⟨k', hk'⟩ : ∃ k', k' = k + 1 := ⟨_, rfl⟩
      have hsp : xs = xs.take k ++ [xs.getD k []] ++ xs.drop (k + 1) := by
        rw [List.append_assoc, List.singleton_append]
        have : xs.getD k [] :: xs.drop (k + 1) = xs.drop k := by
          rw [List.drop_eq_getElem_cons hlt]; simp [List.getD, List.getElem?_eq_getElem hlt]
        rw [this, List.take_append_drop]
      have htk' : xs.take k' = xs.take k ++ [xs.getD k []] := by
        rw [hk', List.take_add_one, List.getElem?_eq_getElem hlt]; simp [List.getD, List.getElem?_eq_getElem hlt]
      have hb : frs xs ++ t = frs (xs.take k) ++ frameOf (xs.getD k []) ++ (frs (xs.drop (k + 1)) ++ t) := by
        have e : frs xs = frs (xs.take k) ++ frameOf (xs.getD k []) ++ frs (xs.drop (k + 1)) := by
          conv => lhs; rw [hsp]
          simp [frs]
        rw [e]; simp
      have hm : xs.getD k [] ∈ xs := by simp [List.getD, List.getElem?_eq_getElem hlt]
      obtain ⟨b1, b2⟩ := hx _ hm
      generalize xs.getD k [] = x at *
      obtain ⟨r1, r2, r3, r4⟩ := frame_read (p := frs (xs.take k)) (l := x) (q := frs (xs.drop (k + 1)) ++ t) b2
      rw [← hb] at r1 r2 r3 r4
      have hlen : (frs (xs.take k)).length + x.length + 7 ≤ (frs xs ++ t).length := by
        rw [hb]; simp only [List.length_append, frameOf_len]; omega
      have hg := c_fGetYes false (frs xs ++ t) (frs (xs.take k)).length x.length hbl r1 b1 b2 hlen r2 r3
      rw [r4] at hg
      have hto : (frs (xs.take k)).length + x.length + 7 = (frs (xs.take k')).length := by
        rw [htk', frs_snoc, List.length_append, frameOf_len]; omega
      rw [hto] at hg
      have k0 : ((0 : Int) != 0) = false := rfl
      have htB : List.take (frs xs ++ t).length (frs xs ++ t) = frs xs ++ t := List.take_length
      (repeat (first | refine awp_seq ?_ | refine awp_block ?_ | ((first | refine awp_skip ?_ | refine awp_exit ?_ | refine awp_reg ttok ?_ | (refine awp_draw ttok ?dr_calm ?_; (case dr_calm => decide +kernel)) | refine awp_condM ?_); simp (maxSteps := 4000000) only [↓reduceIte, Nat.reduceLT, Nat.reduceEqDiff, reduceCtorEq, Nat.reduceAdd, Nat.reduceMul, Int.reduceLE, Int.reduceLT, Int.reduceToNat, Nat.reduceLeDiff, Nat.reduceSub, Int.reduceEq, Nat.reduceBEq, List.replicate, List.set, if_false, if_true, ne_eq, false_implies, implies_true, evA, tyA, htB]; (repeat (with_reducible refine And.intro ?_ ?_; focus ((repeat' with_reducible apply And.intro) <;> (first | omega | with_reducible trivial | with_reducible assumption)))); (with_reducible first | refine awp_id ?_ | refine id_call ?_ | refine id_and ?_ | refine id_ex ?_ | refine id_all ?_ | refine id_le ?_))))
      refine callVC_own fnok51 hg rfl rfl (by simp only [List.all_cons, noI_bys, List.all_nil, Bool.and_self]) ?_
      simp (maxSteps := 4000000) only [↓reduceIte, Nat.reduceLT, Nat.reduceEqDiff, reduceCtorEq, Nat.reduceAdd, Nat.reduceMul, Int.reduceLE, Int.reduceLT, Int.reduceToNat, Nat.reduceLeDiff, Nat.reduceSub, Int.reduceEq, Nat.reduceBEq, List.replicate, List.set, if_false, if_true, ne_eq, false_implies, implies_true, evA, tyA, htB]
      (repeat (with_reducible refine And.intro ?_ ?_; focus ((repeat' with_reducible apply And.intro) <;> (first | omega | with_reducible trivial | with_reducible assumption))))
      (repeat (first | refine awp_seq ?_ | refine awp_block ?_ | ((first | refine awp_skip ?_ | refine awp_exit ?_ | refine awp_reg ttok ?_ | (refine awp_draw ttok ?dr_calm ?_; (case dr_calm => decide +kernel)) | refine awp_condM ?_); simp (maxSteps := 4000000) only [↓reduceIte, Nat.reduceLT, Nat.reduceEqDiff, reduceCtorEq, Nat.reduceAdd, Nat.reduceMul, Int.reduceLE, Int.reduceLT, Int.reduceToNat, Nat.reduceLeDiff, Nat.reduceSub, Int.reduceEq, Nat.reduceBEq, List.replicate, List.set, if_false, if_true, ne_eq, false_implies, implies_true, evA, tyA, k0, List.take_length, bss_len, bss_one, bss_app, bss_row, bss_take, List.take_take, Nat.min_self, ← htk', htk]; (repeat (with_reducible refine And.intro ?_ ?_; focus ((repeat' with_reducible apply And.intro) <;> (first | omega | with_reducible trivial | with_reducible assumption)))); (with_reducible first | refine awp_id ?_ | refine id_call ?_ | refine id_and ?_ | refine id_ex ?_ | refine id_all ?_ | refine id_le ?_))))
      refine ⟨k', by omega, by omega, mkS_le rfl ?_ ?_⟩
      · simp (maxSteps := 4000000) only [↓reduceIte, Nat.reduceLT, Nat.reduceEqDiff, reduceCtorEq, Nat.reduceAdd, Nat.reduceMul, Int.reduceLE, Int.reduceLT, Int.reduceToNat, Nat.reduceLeDiff, Nat.reduceSub, Int.reduceEq, Nat.reduceBEq, List.replicate, List.set, if_false, if_true, ne_eq, false_implies, implies_true, evA, hk']
      · simp (maxSteps := 4000000) only [↓reduceIte, Nat.reduceLT, Nat.reduceEqDiff, reduceCtorEq, Nat.reduceAdd, Nat.reduceMul, Int.reduceLE, Int.reduceLT, Int.reduceToNat, Nat.reduceLeDiff, Nat.reduceSub, Int.reduceEq, Nat.reduceBEq, List.replicate, List.set, if_false, if_true, ne_eq, false_implies, implies_true, evA]
    · obtain rfl : k = xs.length := by omega
      have hta : xs.take xs.length = xs := List.take_length
      obtain ⟨e, k0, hg⟩ := hend
      rw [hta]
      have htB : List.take (frs xs ++ t).length (frs xs ++ t) = frs xs ++ t := List.take_length
      (repeat (first | refine awp_seq ?_ | refine awp_block ?_ | ((first | refine awp_skip ?_ | refine awp_exit ?_ | refine awp_reg ttok ?_ | (refine awp_draw ttok ?dr_calm ?_; (case dr_calm => decide +kernel)) | refine awp_condM ?_); simp (maxSteps := 4000000) only [↓reduceIte, Nat.reduceLT, Nat.reduceEqDiff, reduceCtorEq, Nat.reduceAdd, Nat.reduceMul, Int.reduceLE, Int.reduceLT, Int.reduceToNat, Nat.reduceLeDiff, Nat.reduceSub, Int.reduceEq, Nat.reduceBEq, List.replicate, List.set, if_false, if_true, ne_eq, false_implies, implies_true, evA, tyA, htB]; (repeat (with_reducible refine And.intro ?_ ?_; focus ((repeat' with_reducible apply And.intro) <;> (first | omega | with_reducible trivial | with_reducible assumption)))); (with_reducible first | refine awp_id ?_ | refine id_call ?_ | refine id_and ?_ | refine id_ex ?_ | refine id_all ?_ | refine id_le ?_))))
      refine callVC_own (r := .tup [.sl true [], i64 0, i64 e]) (objs := []) fnok51 hg rfl rfl rfl ?_
      simp (maxSteps := 4000000) only [↓reduceIte, Nat.reduceLT, Nat.reduceEqDiff, reduceCtorEq, Nat.reduceAdd, Nat.reduceMul, Int.reduceLE, Int.reduceLT, Int.reduceToNat, Nat.reduceLeDiff, Nat.reduceSub, Int.reduceEq, Nat.reduceBEq, List.replicate, List.set, if_false, if_true, ne_eq, false_implies, implies_true, evA, tyA]
      (repeat (with_reducible refine And.intro ?_ ?_; focus ((repeat' with_reducible apply And.intro) <;> (first | omega | with_reducible trivial | with_reducible assumption))))
      (repeat (first | refine awp_seq ?_ | refine awp_block ?_ | ((first | refine awp_skip ?_ | refine awp_exit ?_ | refine awp_reg ttok ?_ | (refine awp_draw ttok ?dr_calm ?_; (case dr_calm => decide +kernel)) | refine awp_condM ?_); simp (maxSteps := 4000000) only [↓reduceIte, Nat.reduceLT, Nat.reduceEqDiff, reduceCtorEq, Nat.reduceAdd, Nat.reduceMul, Int.reduceLE, Int.reduceLT, Int.reduceToNat, Nat.reduceLeDiff, Nat.reduceSub, Int.reduceEq, Nat.reduceBEq, List.replicate, List.set, if_false, if_true, ne_eq, false_implies, implies_true, evA, tyA, k0]; (repeat (with_reducible refine And.intro ?_ ?_; focus ((repeat' with_reducible apply And.intro) <;> (first | omega | with_reducible trivial | with_reducible assumption)))); (with_reducible first | refine awp_id ?_ | refine id_call ?_ | refine id_and ?_ | refine id_ex ?_ | refine id_all ?_ | refine id_le ?_))))
      exact awp_ret (endsM [0, 9000] (.inr rfl) (by simp (maxSteps := 4000000) only [↓reduceIte, Nat.reduceLT, Nat.reduceEqDiff, reduceCtorEq, Nat.reduceAdd, Nat.reduceMul, Int.reduceLE, Int.reduceLT, Int.reduceToNat, Nat.reduceLeDiff, Nat.reduceSub, Int.reduceEq, Nat.reduceBEq, List.replicate, List.set, if_false, if_true, ne_eq, false_implies, implies_true, evA]) (by simp (maxSteps := 4000000) only [↓reduceIte, Nat.reduceLT, Nat.reduceEqDiff, reduceCtorEq, Nat.reduceAdd, Nat.reduceMul, Int.reduceLE, Int.reduceLT, Int.reduceToNat, Nat.reduceLeDiff, Nat.reduceSub, Int.reduceEq, Nat.reduceBEq, List.replicate, List.set, if_false, if_true, ne_eq, false_implies, implies_true, evA]))

theorem c_fAllZM (xs : List (List UInt8)) (hx : ∀ x ∈ xs, 0 < x.length ∧ x.length ≤ 400) (hn : xs.length ≤ 1000) (hm : (frs xs).length ≤ 992) :
    ContractM Try.prog 46 [{ sz := 1, rows := bys (mz (frs xs)) }] [.own 0 0 992] (.tup [.own 1 0 xs.length, i64 (frs xs).length]) [some { sz := 1, rows := bys (mz (frs xs)) }, some { sz := 1, rows := bss xs }] := by
  have hl : (mz (frs xs)).length = 992 := mz_len hm
  have hb : (frs xs ++ zer (992 - (frs xs).length)).length = 992 := hl
  have key := c_fAllGM xs (zer (992 - (frs xs).length)) hx hn (by rw [zer_len]; omega) ⟨6, rfl, ?_⟩
  · rw [hb] at key
    exact key
  · by_cases h2 : (frs xs).length ≤ 990
    · exact c_fGetNone false _ (frs xs).length (by omega) (by omega) (.inl (headN_behind (zer_get _ _) (zer_get _ _)))
    · exact c_fGetFar false _ ((frs xs).length : Int) (by omega) (by right; rw [hb]; omega)

set_option maxHeartbeats 4000000 in
theorem c_jAllM (xs : List (List UInt8)) (a t : Int) (hx : ∀ x ∈ xs, 0 < x.length ∧ x.length ≤ 400) (hn : xs.length ≤ 1000) (hm : (frs xs).length ≤ 992) :
    ContractM Try.prog 36 [{ sz := 3, rows := [[i64 a, .own 1 0 992, i64 t]], flat := false }, { sz := 1, rows := bys (mz (frs xs)) }] [.ptr 0 0 0] (.own 2 0 xs.length)
      [some { sz := 3, rows := [[i64 a, .own 1 0 992, i64 t]], flat := false }, some { sz := 1, rows := bys (mz (frs xs)) }, some { sz := 1, rows := bss xs }] := by
  refine contractM_of_awp (rs := [2]) Try.func36 rfl Try.ntmps36 (by simp) rfl fun E => ?_
  have hl : (mz (frs xs)).length = 992 := mz_len hm
  (repeat (first | refine awp_seq ?_ | refine awp_block ?_ | ((first | refine awp_skip ?_ | refine awp_exit ?_ | refine awp_reg ttok ?_ | (refine awp_draw ttok ?dr_calm ?_; (case dr_calm => decide +kernel)) | refine awp_condM ?_); simp (maxSteps := 4000000) only [↓reduceIte, Nat.reduceLT, Nat.reduceEqDiff, reduceCtorEq, Nat.reduceAdd, Nat.reduceMul, Int.reduceLE, Int.reduceLT, Int.reduceToNat, Nat.reduceLeDiff, Nat.reduceSub, Int.reduceEq, Nat.reduceBEq, List.replicate, List.set, if_false, if_true, ne_eq, false_implies, implies_true, evA, tyA]; (repeat (with_reducible refine And.intro ?_ ?_; focus ((repeat' with_reducible apply And.intro) <;> (first | omega | with_reducible trivial | with_reducible assumption)))); (with_reducible first | refine awp_id ?_ | refine id_call ?_ | refine id_and ?_ | refine id_ex ?_ | refine id_all ?_ | refine id_le ?_))))
  refine callVC_M [1] fnok46 (c_fAllZM xs hx hn hm) (by simp (maxSteps := 4000000) only [↓reduceIte, Nat.reduceLT, Nat.reduceEqDiff, reduceCtorEq, Nat.reduceAdd, Nat.reduceMul, Int.reduceLE, Int.reduceLT, Int.reduceToNat, Nat.reduceLeDiff, Nat.reduceSub, Int.reduceEq, Nat.reduceBEq, List.replicate, List.set, if_false, if_true, ne_eq, false_implies, implies_true, evA]; rfl) (by simp (maxSteps := 4000000) only [↓reduceIte, Nat.reduceLT, Nat.reduceEqDiff, reduceCtorEq, Nat.reduceAdd, Nat.reduceMul, Int.reduceLE, Int.reduceLT, Int.reduceToNat, Nat.reduceLeDiff, Nat.reduceSub, Int.reduceEq, Nat.reduceBEq, List.replicate, List.set, if_false, if_true, ne_eq, false_implies, implies_true, evA]) ?_
  simp (maxSteps := 4000000) only [↓reduceIte, Nat.reduceLT, Nat.reduceEqDiff, reduceCtorEq, Nat.reduceAdd, Nat.reduceMul, Int.reduceLE, Int.reduceLT, Int.reduceToNat, Nat.reduceLeDiff, Nat.reduceSub, Int.reduceEq, Nat.reduceBEq, List.replicate, List.set, if_false, if_true, ne_eq, false_implies, implies_true, evA, tyA]
  (repeat (with_reducible refine And.intro ?_ ?_; focus ((repeat' with_reducible apply And.intro) <;> (first | omega | with_reducible trivial | with_reducible assumption))))
  (repeat (first | refine awp_seq ?_ | refine awp_block ?_ | ((first | refine awp_skip ?_ | refine awp_exit ?_ | refine awp_reg ttok ?_ | (refine awp_draw ttok ?dr_calm ?_; (case dr_calm => decide +kernel)) | refine awp_condM ?_); simp (maxSteps := 4000000) only [↓reduceIte, Nat.reduceLT, Nat.reduceEqDiff, reduceCtorEq, Nat.reduceAdd, Nat.reduceMul, Int.reduceLE, Int.reduceLT, Int.reduceToNat, Nat.reduceLeDiff, Nat.reduceSub, Int.reduceEq, Nat.reduceBEq, List.replicate, List.set, if_false, if_true, ne_eq, false_implies, implies_true, evA, tyA]; (repeat (with_reducible refine And.intro ?_ ?_; focus ((repeat' with_reducible apply And.intro) <;> (first | omega | with_reducible trivial | with_reducible assumption)))); (with_reducible first | refine awp_id ?_ | refine id_call ?_ | refine id_and ?_ | refine id_ex ?_ | refine id_all ?_ | refine id_le ?_))))
  exact awp_ret (endsM [0, 1, 104005] (.inr rfl) (by simp (maxSteps := 4000000) only [↓reduceIte, Nat.reduceLT, Nat.reduceEqDiff, reduceCtorEq, Nat.reduceAdd, Nat.reduceMul, Int.reduceLE, Int.reduceLT, Int.reduceToNat, Nat.reduceLeDiff, Nat.reduceSub, Int.reduceEq, Nat.reduceBEq, List.replicate, List.set, if_false, if_true, ne_eq, false_implies, implies_true, evA]) (by simp (maxSteps := 4000000) only [↓reduceIte, Nat.reduceLT, Nat.reduceEqDiff, reduceCtorEq, Nat.reduceAdd, Nat.reduceMul, Int.reduceLE, Int.reduceLT, Int.reduceToNat, Nat.reduceLeDiff, Nat.reduceSub, Int.reduceEq, Nat.reduceBEq, List.replicate, List.set, if_false, if_true, ne_eq, false_implies, implies_true, evA]))

end Go.Proofs.Ytmfonlkigjpjcaa
