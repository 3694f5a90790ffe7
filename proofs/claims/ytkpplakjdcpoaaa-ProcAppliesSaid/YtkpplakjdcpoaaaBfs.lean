import Derived.Test.YtkpplakjdcpoaaaTy
import Derived.Test.YtkpplakjdcpoaaaFam
set_option linter.unusedSimpArgs false
set_option linter.unusedVariables false
namespace Go.Proofs.Ytkpplakjdcpoaaa
open Go.Ab
def negP (L j : Nat) : List Int := List.replicate j (-1) ++ List.replicate (L - j) 0
theorem negP_zero (L : Nat) : negP L 0 = List.replicate L 0 := by simp [negP]
theorem negP_all (L : Nat) : negP L L = negs L := by simp [negP, negs]
theorem negP_len {L j : Nat} (h : j ≤ L) : (negP L j).length = L := by simp [negP]; omega
theorem negP_set {L j : Nat} (h : j < L) : (negP L j).set j (-1) = negP L (j + 1) := by
  rw [negP, List.set_append_right _ _ (by simp), List.length_replicate, Nat.sub_self, show L - j = (L - (j + 1)) + 1 by omega, List.replicate_succ, List.set_cons_zero, negP, List.replicate_succ', List.append_assoc]; rfl
def dfaD (L s : Nat) (F : List Bool) (N : List (List Int)) : D := .agg [i64 L, i64 s, .sl false (bos F), .sl false (iis N)]
set_option maxRecDepth 20000 in
set_option maxHeartbeats 16000000 in
theorem c_Dfa (f : Bool) (l : List (Int × Int × Int)) (fin z0 z1 : Int) (hl : l.length ≤ 9223372036854775807) : Contract Try.prog 14 [.sl f (tri l), i64 fin, .agg [i64 z0, i64 z1]] (dfaD (labD z0) (startD z1) (finD fin (numD z1)) (nextD (labD z0) (numD z1) l)) [] := by
  refine contract_of_awpV ttok (rs := [.cell 6 28]) Try.func14 rfl Try.ntmps14 (by simp) rfl fun E => ?_
  have hL := labD_le z0
  have hk := numD_le z1
  have hLw : IntKind.i64.wrap ((lowB 3 z0 : Int) + (lowB 1 (z0.fdiv (2 ^ min 2 IntKind.i64.bits)) : Int)) = (labD z0 : Int) := by
    have := labD_le z0
    unfold labD at this ⊢
    rw [i64_in (by omega) (by omega)]; simp
  have hkw : IntKind.i64.wrap ((lowB 7 z1 : Int) + 1) = (numD z1 : Int) := by
    unfold numD at hk ⊢
    exact i64_in (by omega) (by omega)
  (repeat (first | refine awp_seq ?_ | refine awp_block ?_ | ((first | refine awp_skip ?_ | refine awp_exit ?_ | refine awp_reg ttok ?_ | (refine awp_draw ttok ?dr_calm ?_; (case dr_calm => decide +kernel)) | refine awp_condM ?_); simp (maxSteps := 4000000) only [↓reduceIte, Nat.reduceLT, Nat.reduceEqDiff, reduceCtorEq, Nat.reduceAdd, Nat.reduceMul, Int.reduceLE, Int.reduceLT, Int.reduceToNat, Nat.reduceLeDiff, Nat.reduceSub, Int.reduceEq, Nat.reduceBEq, evB, tyA, lowW3, lowW1, lowW7, hLw, hkw]; (repeat (with_reducible refine And.intro ?_ ?_; exact sdX)); (with_reducible first | refine awp_id ?_ | refine id_call ?_ | refine id_and ?_ | refine id_ex ?_ | refine id_all ?_ | refine id_nat ?_ | refine id_le ?_))))
  refine awp_at 112 [(0, _), (1, _), (5, _), (6, _), (7, _), (8, _)] [(1000, _), (1001, _)] rfl (by (first | simp (maxSteps := 4000000) only [↓reduceIte, Nat.reduceLT, Nat.reduceEqDiff, reduceCtorEq, Nat.reduceAdd, Nat.reduceMul, Int.reduceLE, Int.reduceLT, Int.reduceToNat, Nat.reduceLeDiff, Nat.reduceSub, Int.reduceEq, Nat.reduceBEq, evB] | skip); exact ⟨rfl, rfl, rfl, rfl, rfl, rfl⟩) (by (first | simp (maxSteps := 4000000) only [↓reduceIte, Nat.reduceLT, Nat.reduceEqDiff, reduceCtorEq, Nat.reduceAdd, Nat.reduceMul, Int.reduceLE, Int.reduceLT, Int.reduceToNat, Nat.reduceLeDiff, Nat.reduceSub, Int.reduceEq, Nat.reduceBEq, evB] | skip); exact ⟨rfl, rfl⟩) ?_
  refine awp_own_nilC 1001 0 2 80001 1 (by decide) (by simp (maxSteps := 4000000) only [↓reduceIte, Nat.reduceLT, Nat.reduceEqDiff, reduceCtorEq, Nat.reduceAdd, Nat.reduceMul, Int.reduceLE, Int.reduceLT, Int.reduceToNat, Nat.reduceLeDiff, Nat.reduceSub, Int.reduceEq, Nat.reduceBEq, evB]; rfl) rfl rfl rfl ?_
  refine awp_own_nilC 1001 0 3 80002 1 (by decide) (by simp (maxSteps := 4000000) only [↓reduceIte, Nat.reduceLT, Nat.reduceEqDiff, reduceCtorEq, Nat.reduceAdd, Nat.reduceMul, Int.reduceLE, Int.reduceLT, Int.reduceToNat, Nat.reduceLeDiff, Nat.reduceSub, Int.reduceEq, Nat.reduceBEq, evB]; rfl) rfl rfl rfl ?_
  refine awp_unflat 80002 ?_
  obtain ⟨L, eL⟩ : ∃ L, L = labD z0 := ⟨_, rfl⟩
  obtain ⟨k, ek⟩ : ∃ k, k = numD z1 := ⟨_, rfl⟩
  rw [← eL] at hL hLw ⊢
  rw [← ek] at hk hkw ⊢
  refine awp_loop (X := Nat) (fun i => mkS 112 [(0, .sl f (tri l)), (1, i64 fin), (5, .ptr 1000 0 0), (6, .ptr 1001 0 0), (7, i64 k), (8, i64 i)]
      ([(1000, { sz := 2, rows := [[i64 z0, i64 z1]], flat := false }), (1001, { sz := 4, rows := [[i64 L, i64 0, .own 80001 0 i, .own 80002 0 i]], flat := false }), (80001, { sz := 1, rows := bos (finD fin i) }), (80002, { sz := 1, rows := ownRows i L, flat := false })] ++ fam i fun _ => { sz := 1, rows := ints (negs L) }))
    (fun i => i ≤ k) (fun i => k - i) 0 (by omega) (mkS_le rfl ?_ ?_) ?_
  · simp (maxSteps := 4000000) only [↓reduceIte, Nat.reduceLT, Nat.reduceEqDiff, reduceCtorEq, Nat.reduceAdd, Nat.reduceMul, Int.reduceLE, Int.reduceLT, Int.reduceToNat, Nat.reduceLeDiff, Nat.reduceSub, Int.reduceEq, Nat.reduceBEq, evB]
    try rfl
  · simp (maxSteps := 4000000) only [↓reduceIte, Nat.reduceLT, Nat.reduceEqDiff, reduceCtorEq, Nat.reduceAdd, Nat.reduceMul, Int.reduceLE, Int.reduceLT, Int.reduceToNat, Nat.reduceLeDiff, Nat.reduceSub, Int.reduceEq, Nat.reduceBEq, evB, fam, List.range_zero]
    exact ⟨rfl, rfl⟩
  · intro i hi
    by_cases hlt : i < k
    · have d1 : decide ((i : Int) < (k : Int)) = true := by simpa using hlt
      have n0 : List.replicate (L : Int).toNat [D.v (Value.int IntKind.i64 0)] = ints (List.replicate L 0) := by simp [ints]
      ((repeat (first | refine awp_seq ?_ | refine awp_block ?_)); ((first | refine awp_skip ?_ | refine awp_exit ?_ | refine awp_reg ttok ?_ | (refine awp_draw ttok ?dr_calm ?_; (case dr_calm => decide +kernel)) | refine awp_condM ?_); simp (maxSteps := 4000000) only [↓reduceIte, Nat.reduceLT, Nat.reduceEqDiff, reduceCtorEq, Nat.reduceAdd, Nat.reduceMul, Int.reduceLE, Int.reduceLT, Int.reduceToNat, Nat.reduceLeDiff, Nat.reduceSub, Int.reduceEq, Nat.reduceBEq, evB, tyA, d1]; (repeat (with_reducible refine And.intro ?_ ?_; exact sdX)); (with_reducible first | refine awp_id ?_ | refine id_call ?_ | refine id_and ?_ | refine id_ex ?_ | refine id_all ?_ | refine id_nat ?_ | refine id_le ?_)))
      ((repeat (first | refine awp_seq ?_ | refine awp_block ?_)); ((first | refine awp_skip ?_ | refine awp_exit ?_ | refine awp_reg ttok ?_ | (refine awp_draw ttok ?dr_calm ?_; (case dr_calm => decide +kernel)) | refine awp_condM ?_); simp (maxSteps := 4000000) only [↓reduceIte, Nat.reduceLT, Nat.reduceEqDiff, reduceCtorEq, Nat.reduceAdd, Nat.reduceMul, Int.reduceLE, Int.reduceLT, Int.reduceToNat, Nat.reduceLeDiff, Nat.reduceSub, Int.reduceEq, Nat.reduceBEq, evB, tyA, d1]; (repeat (with_reducible refine And.intro ?_ ?_; exact sdX)); (with_reducible first | refine awp_id ?_ | refine id_call ?_ | refine id_and ?_ | refine id_ex ?_ | refine id_all ?_ | refine id_nat ?_ | refine id_le ?_)))
      ((repeat (first | refine awp_seq ?_ | refine awp_block ?_)); ((first | refine awp_skip ?_ | refine awp_exit ?_ | refine awp_reg ttok ?_ | (refine awp_draw ttok ?dr_calm ?_; (case dr_calm => decide +kernel)) | refine awp_condM ?_); simp (maxSteps := 4000000) only [↓reduceIte, Nat.reduceLT, Nat.reduceEqDiff, reduceCtorEq, Nat.reduceAdd, Nat.reduceMul, Int.reduceLE, Int.reduceLT, Int.reduceToNat, Nat.reduceLeDiff, Nat.reduceSub, Int.reduceEq, Nat.reduceBEq, evB, tyA]; (repeat (with_reducible refine And.intro ?_ ?_; exact sdX)); (with_reducible first | refine awp_id ?_ | refine id_call ?_ | refine id_and ?_ | refine id_ex ?_ | refine id_all ?_ | refine id_nat ?_ | refine id_le ?_)))
      repeat (first | refine awp_seq ?_ | refine awp_block ?_)
      refine awp_region ttok (i + 89998) ?_
      simp (maxSteps := 4000000) only [↓reduceIte, Nat.reduceLT, Nat.reduceEqDiff, reduceCtorEq, Nat.reduceAdd, Nat.reduceMul, Int.reduceLE, Int.reduceLT, Int.reduceToNat, Nat.reduceLeDiff, Nat.reduceSub, Int.reduceEq, Nat.reduceBEq, evB, tyA, n0, lk_famO, show i + 89998 + 1 + 1 = i + 90000 from rfl]
      (repeat (with_reducible refine And.intro ?_ ?_; exact sdX))
      (repeat (first | refine awp_seq ?_ | refine awp_block ?_ | ((first | refine awp_skip ?_ | refine awp_exit ?_ | refine awp_reg ttok ?_ | (refine awp_draw ttok ?dr_calm ?_; (case dr_calm => decide +kernel)) | refine awp_condM ?_); simp (maxSteps := 4000000) only [↓reduceIte, Nat.reduceLT, Nat.reduceEqDiff, reduceCtorEq, Nat.reduceAdd, Nat.reduceMul, Int.reduceLE, Int.reduceLT, Int.reduceToNat, Nat.reduceLeDiff, Nat.reduceSub, Int.reduceEq, Nat.reduceBEq, evB, tyA]; (repeat (with_reducible refine And.intro ?_ ?_; exact sdX)); (with_reducible first | refine awp_id ?_ | refine id_call ?_ | refine id_and ?_ | refine id_ex ?_ | refine id_all ?_ | refine id_nat ?_ | refine id_le ?_))))
      have hnl : ∀ j, j ≤ L → (negP L j).length = L := fun j h => negP_len h
      refine awp_loop (X := Nat) (fun j => mkS 112 [(0, .sl f (tri l)), (1, i64 fin), (5, .ptr 1000 0 0), (6, .ptr 1001 0 0), (7, i64 k), (8, i64 i), (9, .own (i + 90000) 0 L), (10, i64 j)]
          ([(1000, { sz := 2, rows := [[i64 z0, i64 z1]], flat := false }), (1001, { sz := 4, rows := [[i64 L, i64 0, .own 80001 0 i, .own 80002 0 i]], flat := false }), (80001, { sz := 1, rows := bos (finD fin i) }), (80002, { sz := 1, rows := ownRows i L, flat := false }), (i + 90000, { sz := 1, rows := ints (negP L j) })] ++ fam i fun _ => { sz := 1, rows := ints (negs L) }))
        (fun j => j ≤ L) (fun j => L - j) 0 (by omega) (mkS_le rfl ?_ ?_) ?_
      · simp (maxSteps := 4000000) only [↓reduceIte, Nat.reduceLT, Nat.reduceEqDiff, reduceCtorEq, Nat.reduceAdd, Nat.reduceMul, Int.reduceLE, Int.reduceLT, Int.reduceToNat, Nat.reduceLeDiff, Nat.reduceSub, Int.reduceEq, Nat.reduceBEq, evB]
        try rfl
      · simp (maxSteps := 4000000) only [↓reduceIte, Nat.reduceLT, Nat.reduceEqDiff, reduceCtorEq, Nat.reduceAdd, Nat.reduceMul, Int.reduceLE, Int.reduceLT, Int.reduceToNat, Nat.reduceLeDiff, Nat.reduceSub, Int.reduceEq, Nat.reduceBEq, evB, knowsH_app, knowsH_fam, negP_zero, ownRows_killO]
        refine ⟨by rw [← n0]; rfl, fun r hr => ?_⟩
        rw [if_neg (by omega), if_neg (by omega), lk_fam hr]
        rfl
      · intro j hj
        have hjl := hnl j hj
        by_cases hjlt : j < L
        · have d2 : decide ((j : Int) < (L : Int)) = true := by simpa using hjlt
          have hw : IntKind.i64.wrap ((j : Int) + 1) = ((j + 1 : Nat) : Int) := i64_in (by omega) (by omega)
          have hs : List.set (ints (negP L j)) j [D.v (Value.int IntKind.i64 (-1))] = ints (negP L (j + 1)) := by rw [← negP_set hjlt]; simp [ints]
          have hg : (ints (negP L j)).getD j [] = [i64 ((negP L j).getD j 0)] := ints_get (by omega)
          (repeat (first | refine awp_seq ?_ | refine awp_block ?_ | ((first | refine awp_skip ?_ | refine awp_exit ?_ | refine awp_reg ttok ?_ | (refine awp_draw ttok ?dr_calm ?_; (case dr_calm => decide +kernel)) | refine awp_condM ?_); simp (maxSteps := 4000000) only [↓reduceIte, Nat.reduceLT, Nat.reduceEqDiff, reduceCtorEq, Nat.reduceAdd, Nat.reduceMul, Int.reduceLE, Int.reduceLT, Int.reduceToNat, Nat.reduceLeDiff, Nat.reduceSub, Int.reduceEq, Nat.reduceBEq, evB, tyA, d2, hw, hjl, hs, hg]; (repeat (with_reducible refine And.intro ?_ ?_; exact sdX)); (with_reducible first | refine awp_id ?_ | refine id_call ?_ | refine id_and ?_ | refine id_ex ?_ | refine id_all ?_ | refine id_nat ?_ | refine id_le ?_))))
          refine ⟨j + 1, by omega, by omega, mkS_le rfl ?_ ?_⟩
          · exact evX
          · simp (maxSteps := 4000000) only [↓reduceIte, Nat.reduceLT, Nat.reduceEqDiff, reduceCtorEq, Nat.reduceAdd, Nat.reduceMul, Int.reduceLE, Int.reduceLT, Int.reduceToNat, Nat.reduceLeDiff, Nat.reduceSub, Int.reduceEq, Nat.reduceBEq, evB, knowsH_app, knowsH_fam, hs, hg]
            intro r hr
            rw [if_neg (by omega), if_neg (by omega), lk_fam hr]
        · have d2 : decide ((j : Int) < (L : Int)) = false := by simpa using hjlt
          obtain rfl : j = L := by omega
          (repeat (first | refine awp_seq ?_ | refine awp_block ?_ | ((first | refine awp_skip ?_ | refine awp_exit ?_ | refine awp_reg ttok ?_ | (refine awp_draw ttok ?dr_calm ?_; (case dr_calm => decide +kernel)) | refine awp_condM ?_); simp (maxSteps := 4000000) only [↓reduceIte, Nat.reduceLT, Nat.reduceEqDiff, reduceCtorEq, Nat.reduceAdd, Nat.reduceMul, Int.reduceLE, Int.reduceLT, Int.reduceToNat, Nat.reduceLeDiff, Nat.reduceSub, Int.reduceEq, Nat.reduceBEq, evB, tyA, d2]; (repeat (with_reducible refine And.intro ?_ ?_; exact sdX)); (with_reducible first | refine awp_id ?_ | refine id_call ?_ | refine id_and ?_ | refine id_ex ?_ | refine id_all ?_ | refine id_nat ?_ | refine id_le ?_))))
          refine awp_region ttok 50000000 ?_
          have hkb : (ownRows i j).map (D.killL 50000003) = ownRows i j := ownRows_killB (by omega) (by decide)
          have hi9 : (i = 49910003) = False := eq_false (by omega)
          have hnj := hnl j (Nat.le_refl _)
          simp (maxSteps := 4000000) only [↓reduceIte, Nat.reduceLT, Nat.reduceEqDiff, reduceCtorEq, Nat.reduceAdd, Nat.reduceMul, Int.reduceLE, Int.reduceLT, Int.reduceToNat, Nat.reduceLeDiff, Nat.reduceSub, Int.reduceEq, Nat.reduceBEq, evB, tyA, ownRows_len, ownRows_take, ownRows_app, ownRows_row, ownRows_kill, hkb, hi9]
          refine ⟨⟨by simp, by omega, by omega⟩, ?_⟩
          have hfl := finD_len fin i
          have hft : List.take i (finD fin i) = finD fin i := List.take_of_length_le (by omega)
          have hw : IntKind.i64.wrap ((i : Int) + 1) = ((i + 1 : Nat) : Int) := i64_in (by omega) (by omega)
          have hfs := finD_succ fin i
          have hu : IntKind.u64.wrap (i : Int) = (i : Int) := by
            simp only [IntKind.wrap, IntKind.bits, IntKind.signed, Bool.false_eq_true, if_false]
            first | omega | (simp; omega) | simp
          have hbo : ∀ b : Bool, [[D.v (Value.bool b)]] = bos [b] := fun _ => rfl
          (repeat (first | refine awp_seq ?_ | refine awp_block ?_ | ((first | refine awp_skip ?_ | refine awp_exit ?_ | refine awp_reg ttok ?_ | (refine awp_draw ttok ?dr_calm ?_; (case dr_calm => decide +kernel)) | refine awp_condM ?_); simp (maxSteps := 4000000) only [↓reduceIte, Nat.reduceLT, Nat.reduceEqDiff, reduceCtorEq, Nat.reduceAdd, Nat.reduceMul, Int.reduceLE, Int.reduceLT, Int.reduceToNat, Nat.reduceLeDiff, Nat.reduceSub, Int.reduceEq, Nat.reduceBEq, evB, tyA, hw, hu, lowW1, bos_len, bos_take, bos_app, bos_row, hbo, hfl, hft, ← hfs]; (repeat (with_reducible refine And.intro ?_ ?_; exact sdX)); (with_reducible first | refine awp_id ?_ | refine id_call ?_ | refine id_and ?_ | refine id_ex ?_ | refine id_all ?_ | refine id_nat ?_ | refine id_le ?_))))
          refine ⟨i + 1, by omega, by omega, mkS_le rfl ?_ ?_⟩
          · exact evX
          · simp (maxSteps := 4000000) only [↓reduceIte, Nat.reduceLT, Nat.reduceEqDiff, reduceCtorEq, Nat.reduceAdd, Nat.reduceMul, Int.reduceLE, Int.reduceLT, Int.reduceToNat, Nat.reduceLeDiff, Nat.reduceSub, Int.reduceEq, Nat.reduceBEq, evB, knowsH_app, knowsH_fam, ownRows_app, ← hfs]
            refine ⟨by rw [ownRows_kill (by decide), ownRows_kill (by decide)], fun r hr => ?_⟩
            rw [if_neg (by omega), if_neg (by omega)]
            by_cases hri : r = i
            · rw [if_pos hri, negP_all]; rfl
            · rw [if_neg hri, lk_fam (by omega)]; rfl
    · have d1 : decide ((i : Int) < (k : Int)) = false := by simpa using hlt
      obtain rfl : i = k := by omega
      (repeat (first | refine awp_seq ?_ | refine awp_block ?_ | ((first | refine awp_skip ?_ | refine awp_exit ?_ | refine awp_reg ttok ?_ | (refine awp_draw ttok ?dr_calm ?_; (case dr_calm => decide +kernel)) | refine awp_condM ?_); simp (maxSteps := 4000000) only [↓reduceIte, Nat.reduceLT, Nat.reduceEqDiff, reduceCtorEq, Nat.reduceAdd, Nat.reduceMul, Int.reduceLE, Int.reduceLT, Int.reduceToNat, Nat.reduceLeDiff, Nat.reduceSub, Int.reduceEq, Nat.reduceBEq, evB, tyA, d1]; (repeat (with_reducible refine And.intro ?_ ?_; exact sdX)); (with_reducible first | refine awp_id ?_ | refine id_call ?_ | refine id_and ?_ | refine id_ex ?_ | refine id_all ?_ | refine id_nat ?_ | refine id_le ?_))))
      have hok := fun n => nxD_ok (L := L) hk.1 l n
      refine awp_loop (X := Nat) (fun n => mkS 112 [(0, .sl f (tri l)), (5, .ptr 1000 0 0), (6, .ptr 1001 0 0), (7, i64 i), (11, i64 n)]
          ([(1000, { sz := 2, rows := [[i64 z0, i64 z1]], flat := false }), (1001, { sz := 4, rows := [[i64 L, i64 0, .own 80001 0 i, .own 80002 0 i]], flat := false }), (80001, { sz := 1, rows := bos (finD fin i) }), (80002, { sz := 1, rows := ownRows i L, flat := false })] ++ fam i fun r => { sz := 1, rows := ints ((nxD L i l n).getD r []) }))
        (fun n => n ≤ (if L = 0 then 0 else min l.length 24)) (fun n => 24 - n) 0 (Nat.zero_le _) (mkS_le rfl ?_ ?_) ?_
      · simp (maxSteps := 4000000) only [↓reduceIte, Nat.reduceLT, Nat.reduceEqDiff, reduceCtorEq, Nat.reduceAdd, Nat.reduceMul, Int.reduceLE, Int.reduceLT, Int.reduceToNat, Nat.reduceLeDiff, Nat.reduceSub, Int.reduceEq, Nat.reduceBEq, evB]
        try rfl
      · simp (maxSteps := 4000000) only [↓reduceIte, Nat.reduceLT, Nat.reduceEqDiff, reduceCtorEq, Nat.reduceAdd, Nat.reduceMul, Int.reduceLE, Int.reduceLT, Int.reduceToNat, Nat.reduceLeDiff, Nat.reduceSub, Int.reduceEq, Nat.reduceBEq, evB, knowsH_app, knowsH_fam]
        intro r hr
        rw [lk_fam hr]
        simp [nxD, nx0, hr]
      · intro n hn
        by_cases hlt2 : n < (if L = 0 then 0 else min l.length 24)
        · have hL0 : L ≠ 0 := by intro e; rw [if_pos e] at hlt2; omega
          rw [if_neg hL0] at hlt2 hn
          have e1 : decide ((n : Int) < (l.length : Int)) = true := by simp; omega
          have e2 : decide ((n : Int) < 24) = true := by simp; omega
          have e3 : decide (0 < (L : Int)) = true := by simp; omega
          have hgt := tri_get (l := l) (i := n) (by omega)
          have hF : mvF i (l.getD n (0, 0, 0)) < i := Nat.mod_lt _ (by omega)
          have hT : mvT i (l.getD n (0, 0, 0)) < i := Nat.mod_lt _ (by omega)
          have hC : mvC L (l.getD n (0, 0, 0)) < L := Nat.mod_lt _ (by omega)
          have hstep : nxD L i l (n + 1) = setN (nxD L i l n) (mvF i (l.getD n (0, 0, 0))) (mvC L (l.getD n (0, 0, 0))) (mvT i (l.getD n (0, 0, 0))) := rfl
          generalize hx : l.getD n (0, 0, 0) = x at *
          obtain ⟨x1, x2, x3⟩ := x
          obtain ⟨F, hFe⟩ : ∃ F, mvF i (x1, x2, x3) = F := ⟨_, rfl⟩
          obtain ⟨T, hTe⟩ : ∃ T, mvT i (x1, x2, x3) = T := ⟨_, rfl⟩
          obtain ⟨C, hCe⟩ : ∃ C, mvC L (x1, x2, x3) = C := ⟨_, rfl⟩
          rw [hFe] at hF hstep; rw [hTe] at hT hstep; rw [hCe] at hC hstep
          have mF : lowB 255 x1 % i = F := hFe
          have mT : lowB 255 x2 % i = T := hTe
          have mC : lowB 255 x3 % L = C := hCe
          have wF : IntKind.i64.wrap (F : Int) = (F : Int) := i64_in (by omega) (by omega)
          have wT : IntKind.i64.wrap (T : Int) = (T : Int) := i64_in (by omega) (by omega)
          have wC : IntKind.i64.wrap (C : Int) = (C : Int) := i64_in (by omega) (by omega)
          have z1' : (((i : Nat) : Int) == 0) = false := by simp; omega
          have z2' : (((L : Nat) : Int) == 0) = false := by simp; omega
          have z3' : (((i : Nat) : Int) = 0) = False := eq_false (by omega)
          have z4' : (((L : Nat) : Int) = 0) = False := eq_false (by omega)
          have hg := ownRows_get (L := L) hF
          have hnk := (hok n).get hF
          have hgi := ints_get (l := (nxD L i l n).getD F []) (i := C) (by omega)
          have hw : IntKind.i64.wrap ((n : Int) + 1) = ((n + 1 : Nat) : Int) := i64_in (by omega) (by omega)
          (repeat (first | refine awp_seq ?_ | refine awp_block ?_ | ((first | refine awp_skip ?_ | refine awp_exit ?_ | refine awp_reg ttok ?_ | (refine awp_draw ttok ?dr_calm ?_; (case dr_calm => decide +kernel)) | refine awp_condM ?_); simp (maxSteps := 4000000) only [↓reduceIte, Nat.reduceLT, Nat.reduceEqDiff, reduceCtorEq, Nat.reduceAdd, Nat.reduceMul, Int.reduceLE, Int.reduceLT, Int.reduceToNat, Nat.reduceLeDiff, Nat.reduceSub, Int.reduceEq, Nat.reduceBEq, evB, tyA, e1, e2, e3, tri_len, hgt]; (repeat (with_reducible refine And.intro ?_ ?_; exact sdX)); (with_reducible first | refine awp_id ?_ | refine id_call ?_ | refine id_and ?_ | refine id_ex ?_ | refine id_all ?_ | refine id_nat ?_ | refine id_le ?_))))
          refine awp_drawG ttok ((0, none) :: (1, none) :: (2, none) :: (3, none) :: (4, none) :: (5, none) :: (6, none) :: (7, none) :: (8, none) :: (9, none) :: (10, none) :: (11, none) :: (12, none) :: (13, none) :: (14, none) :: (15, none) :: (16, none) :: (17, none) :: (18, none) :: (19, none) :: (20, none) :: (21, none) :: (22, none) :: (23, none) :: (24, none) :: (25, none) :: (26, none) :: (27, none) :: (28, none) :: (29, none) :: (30, some []) :: []) ([]) ([]) (by decide +kernel) fun O hO => ?_; simp only [OpsAre, Nat.reduceAdd, and_true, List.toList_toArray, List.append_eq, List.cons_append, List.nil_append] at hO; simp (maxSteps := 4000000) only [↓reduceIte, Nat.reduceLT, Nat.reduceEqDiff, reduceCtorEq, Nat.reduceAdd, Nat.reduceMul, Int.reduceLE, Int.reduceLT, Int.reduceToNat, Nat.reduceLeDiff, Nat.reduceSub, Int.reduceEq, Nat.reduceBEq, evB, tyA, hO, tri_len, hgt, lowW255, tmodN, mF, mT, mC, wF, wT, wC, z1', z2', z3', z4', ownRows_len, hg, lk_fam hF, hgi]; (repeat (with_reducible refine And.intro ?_ ?_; exact sdX))
          (repeat (first | refine awp_seq ?_ | refine awp_block ?_ | ((first | refine awp_skip ?_ | refine awp_exit ?_ | refine awp_reg ttok ?_ | (refine awp_draw ttok ?dr_calm ?_; (case dr_calm => decide +kernel)) | refine awp_condM ?_); simp (maxSteps := 4000000) only [↓reduceIte, Nat.reduceLT, Nat.reduceEqDiff, reduceCtorEq, Nat.reduceAdd, Nat.reduceMul, Int.reduceLE, Int.reduceLT, Int.reduceToNat, Nat.reduceLeDiff, Nat.reduceSub, Int.reduceEq, Nat.reduceBEq, evB, tyA, hw]; (repeat (with_reducible refine And.intro ?_ ?_; exact sdX)); (with_reducible first | refine awp_id ?_ | refine id_call ?_ | refine id_and ?_ | refine id_ex ?_ | refine id_all ?_ | refine id_nat ?_ | refine id_le ?_))))
          refine ⟨n + 1, by rw [if_neg hL0]; omega, by omega, mkS_le rfl ?_ ?_⟩
          · exact evX
          · simp (maxSteps := 4000000) only [↓reduceIte, Nat.reduceLT, Nat.reduceEqDiff, reduceCtorEq, Nat.reduceAdd, Nat.reduceMul, Int.reduceLE, Int.reduceLT, Int.reduceToNat, Nat.reduceLeDiff, Nat.reduceSub, Int.reduceEq, Nat.reduceBEq, evB, knowsH_app, knowsH_fam, hgi]
            intro r hr
            rw [hstep]
            by_cases hrF : r = F
            · rw [if_pos hrF, hrF]
              have e : (setN (nxD L i l n) F C T).getD F [] = ((nxD L i l n).getD F []).set C T := by
                have := (hok n).len
                simp [setN, List.getD, show F < (nxD L i l n).length by omega]
              rw [e]
              simp [ints]
            · rw [if_neg hrF, lk_fam hr]
              have e : (setN (nxD L i l n) F C T).getD r [] = (nxD L i l n).getD r [] := by
                simp [setN, List.getD, List.getElem?_set_ne (Ne.symm hrF)]
              rw [e]
        · obtain rfl : n = (if L = 0 then 0 else min l.length 24) := by omega
          have hfin : nxD L i l (if L = 0 then 0 else min l.length 24) = nextD L i l := rfl
          obtain ⟨n, hn0⟩ : ∃ n, n = (if L = 0 then 0 else min l.length 24) := ⟨_, rfl⟩
          rw [← hn0] at hfin ⊢
          have hcases : decide ((n : Int) < (l.length : Int)) = false ∨ (decide ((n : Int) < (l.length : Int)) = true ∧ decide ((n : Int) < 24) = false) ∨ (decide ((n : Int) < (l.length : Int)) = true ∧ decide ((n : Int) < 24) = true ∧ decide (0 < (L : Int)) = false) := by
            simp only [decide_eq_false_iff_not, decide_eq_true_eq]
            by_cases hL0 : L = 0
            · omega
            · rw [if_neg hL0] at hn0; omega
          rw [hfin]
          have hokN := nextD_ok (L := L) hk.1 l
          generalize nextD L i l = N at *
          obtain ⟨pp, hpe, hpp⟩ := purLL_own (h := lk ([(1000, { sz := 2, rows := [[i64 z0, i64 z1]], flat := false }), (1001, { sz := 4, rows := [[i64 L, i64 0, .own 80001 0 i, .own 80002 0 i]], flat := false }), (80001, { sz := 1, rows := bos (finD fin i) }), (80002, { sz := 1, rows := ownRows i L, flat := false })] ++ fam i fun r => { sz := 1, rows := ints (N.getD r []) })) (L := L) (g := fun r => { sz := 1, rows := ints (N.getD r []) }) (List.range i) (fun r hr => ⟨by
              have hr' := List.mem_range.1 hr
              rw [lk_app, lk_none (by simp)]
              exact lk_fam hr', rfl, by rw [ints_len]; exact (hokN.get (List.mem_range.1 hr)).1⟩)
          have hrows : ((List.range i).map fun r => [D.sl false (ints (N.getD r []))]) = iis N := by
            apply List.ext_getElem
            · simp [iis, hokN.len]
            · intro r h1 h2
              have : r < N.length := by simpa [iis] using h2
              simp [iis, List.getD, this]
          refine awp_pureO 80002 (o := { sz := 1, rows := ownRows i L, flat := false }) evX rfl hpe hpp (by simp) ?_
          simp only [hrows]
          have hcon : ∀ k, decide (k < 90000) = true → ((List.range i).map (· + 90000)).contains k = false := fun k h => map90000_has h
          have c1 := hcon 1000 rfl
          have c2 := hcon 1001 rfl
          have c3 := hcon 80001 rfl
          have c4 := hcon 80002 rfl
          have hfl := finD_len fin i
          have hft : List.take i (finD fin i) = finD fin i := List.take_of_length_le (by omega)
          have hil := hokN.len
          have hit : List.take i N = N := List.take_of_length_le (by omega)
          refine awp_at 112 [(0, _), (5, _), (6, _), (7, _), (11, _)] [(1000, _), (1001, _), (80001, _), (80002, _)] rfl (by (first | simp (maxSteps := 4000000) only [↓reduceIte, Nat.reduceLT, Nat.reduceEqDiff, reduceCtorEq, Nat.reduceAdd, Nat.reduceMul, Int.reduceLE, Int.reduceLT, Int.reduceToNat, Nat.reduceLeDiff, Nat.reduceSub, Int.reduceEq, Nat.reduceBEq, evB, c1, c2, c3, c4] | skip); exact ⟨rfl, rfl, rfl, rfl, rfl⟩) (by (first | simp (maxSteps := 4000000) only [↓reduceIte, Nat.reduceLT, Nat.reduceEqDiff, reduceCtorEq, Nat.reduceAdd, Nat.reduceMul, Int.reduceLE, Int.reduceLT, Int.reduceToNat, Nat.reduceLeDiff, Nat.reduceSub, Int.reduceEq, Nat.reduceBEq, evB, c1, c2, c3, c4] | skip); exact ⟨rfl, rfl, rfl, rfl⟩) ?_
          refine awp_pureO 1001 (by simp (maxSteps := 4000000) only [↓reduceIte, Nat.reduceLT, Nat.reduceEqDiff, reduceCtorEq, Nat.reduceAdd, Nat.reduceMul, Int.reduceLE, Int.reduceLT, Int.reduceToNat, Nat.reduceLeDiff, Nat.reduceSub, Int.reduceEq, Nat.reduceBEq, evB]; rfl) rfl (by simp (maxSteps := 4000000) only [↓reduceIte, Nat.reduceLT, Nat.reduceEqDiff, reduceCtorEq, Nat.reduceAdd, Nat.reduceMul, Int.reduceLE, Int.reduceLT, Int.reduceToNat, Nat.reduceLeDiff, Nat.reduceSub, Int.reduceEq, Nat.reduceBEq, evB, bos_len, bos_take, iis_len, iis_take, hfl, hft, hil, hit]; rfl) (by simp (maxSteps := 4000000) only [↓reduceIte, Nat.reduceLT, Nat.reduceEqDiff, reduceCtorEq, Nat.reduceAdd, Nat.reduceMul, Int.reduceLE, Int.reduceLT, Int.reduceToNat, Nat.reduceLeDiff, Nat.reduceSub, Int.reduceEq, Nat.reduceBEq, evB, bos_len, iis_len, hfl, hil]) (by decide) ?_
          refine awp_at 112 [(0, _), (5, _), (6, _), (7, _), (11, _)] [(1000, _), (1001, _)] rfl (by (first | simp (maxSteps := 4000000) only [↓reduceIte, Nat.reduceLT, Nat.reduceEqDiff, reduceCtorEq, Nat.reduceAdd, Nat.reduceMul, Int.reduceLE, Int.reduceLT, Int.reduceToNat, Nat.reduceLeDiff, Nat.reduceSub, Int.reduceEq, Nat.reduceBEq, evB] | skip); exact ⟨rfl, rfl, rfl, rfl, rfl⟩) (by (first | simp (maxSteps := 4000000) only [↓reduceIte, Nat.reduceLT, Nat.reduceEqDiff, reduceCtorEq, Nat.reduceAdd, Nat.reduceMul, Int.reduceLE, Int.reduceLT, Int.reduceToNat, Nat.reduceLeDiff, Nat.reduceSub, Int.reduceEq, Nat.reduceBEq, evB] | skip); exact ⟨rfl, rfl⟩) ?_
          have hsw : lowB 255 (z1.fdiv (2 ^ min 3 IntKind.i64.bits)) % i = startD z1 := by rw [startD, ek]
          have hs1 := startD_lt z1
          rw [← ek] at hs1
          have wS : IntKind.i64.wrap ((startD z1 : Nat) : Int) = ((startD z1 : Nat) : Int) := i64_in (by omega) (by omega)
          have z3' : (((i : Nat) : Int) = 0) = False := eq_false (by omega)
          have z1' : (((i : Nat) : Int) == 0) = false := by simp; omega
          rcases hcases with q | ⟨q1, q2⟩ | ⟨q1, q2, q3⟩
          · (repeat (first | refine awp_seq ?_ | refine awp_block ?_ | ((first | refine awp_skip ?_ | refine awp_exit ?_ | refine awp_reg ttok ?_ | (refine awp_draw ttok ?dr_calm ?_; (case dr_calm => decide +kernel)) | refine awp_condM ?_); simp (maxSteps := 4000000) only [↓reduceIte, Nat.reduceLT, Nat.reduceEqDiff, reduceCtorEq, Nat.reduceAdd, Nat.reduceMul, Int.reduceLE, Int.reduceLT, Int.reduceToNat, Nat.reduceLeDiff, Nat.reduceSub, Int.reduceEq, Nat.reduceBEq, evB, tyA, q, tri_len, lowW255, tmodN, hsw, wS, z1', z3']; (repeat (with_reducible refine And.intro ?_ ?_; exact sdX)); (with_reducible first | refine awp_id ?_ | refine id_call ?_ | refine id_and ?_ | refine id_ex ?_ | refine id_all ?_ | refine id_nat ?_ | refine id_le ?_))))
            exact awp_ret (endsV [] (.inr rfl) (by simp (maxSteps := 4000000) only [↓reduceIte, Nat.reduceLT, Nat.reduceEqDiff, reduceCtorEq, Nat.reduceAdd, Nat.reduceMul, Int.reduceLE, Int.reduceLT, Int.reduceToNat, Nat.reduceLeDiff, Nat.reduceSub, Int.reduceEq, Nat.reduceBEq, evB, tyA, dfaD]; rfl) trivial evX)
          · (repeat (first | refine awp_seq ?_ | refine awp_block ?_ | ((first | refine awp_skip ?_ | refine awp_exit ?_ | refine awp_reg ttok ?_ | (refine awp_draw ttok ?dr_calm ?_; (case dr_calm => decide +kernel)) | refine awp_condM ?_); simp (maxSteps := 4000000) only [↓reduceIte, Nat.reduceLT, Nat.reduceEqDiff, reduceCtorEq, Nat.reduceAdd, Nat.reduceMul, Int.reduceLE, Int.reduceLT, Int.reduceToNat, Nat.reduceLeDiff, Nat.reduceSub, Int.reduceEq, Nat.reduceBEq, evB, tyA, q1, q2, tri_len, lowW255, tmodN, hsw, wS, z1', z3']; (repeat (with_reducible refine And.intro ?_ ?_; exact sdX)); (with_reducible first | refine awp_id ?_ | refine id_call ?_ | refine id_and ?_ | refine id_ex ?_ | refine id_all ?_ | refine id_nat ?_ | refine id_le ?_))))
            exact awp_ret (endsV [] (.inr rfl) (by simp (maxSteps := 4000000) only [↓reduceIte, Nat.reduceLT, Nat.reduceEqDiff, reduceCtorEq, Nat.reduceAdd, Nat.reduceMul, Int.reduceLE, Int.reduceLT, Int.reduceToNat, Nat.reduceLeDiff, Nat.reduceSub, Int.reduceEq, Nat.reduceBEq, evB, tyA, dfaD]; rfl) trivial evX)
          · (repeat (first | refine awp_seq ?_ | refine awp_block ?_ | ((first | refine awp_skip ?_ | refine awp_exit ?_ | refine awp_reg ttok ?_ | (refine awp_draw ttok ?dr_calm ?_; (case dr_calm => decide +kernel)) | refine awp_condM ?_); simp (maxSteps := 4000000) only [↓reduceIte, Nat.reduceLT, Nat.reduceEqDiff, reduceCtorEq, Nat.reduceAdd, Nat.reduceMul, Int.reduceLE, Int.reduceLT, Int.reduceToNat, Nat.reduceLeDiff, Nat.reduceSub, Int.reduceEq, Nat.reduceBEq, evB, tyA, q1, q2, q3, tri_len, lowW255, tmodN, hsw, wS, z1', z3']; (repeat (with_reducible refine And.intro ?_ ?_; exact sdX)); (with_reducible first | refine awp_id ?_ | refine id_call ?_ | refine id_and ?_ | refine id_ex ?_ | refine id_all ?_ | refine id_nat ?_ | refine id_le ?_))))
            exact awp_ret (endsV [] (.inr rfl) (by simp (maxSteps := 4000000) only [↓reduceIte, Nat.reduceLT, Nat.reduceEqDiff, reduceCtorEq, Nat.reduceAdd, Nat.reduceMul, Int.reduceLE, Int.reduceLT, Int.reduceToNat, Nat.reduceLeDiff, Nat.reduceSub, Int.reduceEq, Nat.reduceBEq, evB, tyA, dfaD]; rfl) trivial evX)
theorem take_snoc {α : Type} {l : List α} {k : Nat} (hk : k < l.length) (d : α) : l.take (k + 1) = l.take k ++ [l.getD k d] := by
  rw [List.take_add_one, List.getElem?_eq_getElem hk]; simp [List.getD, List.getElem?_eq_getElem hk]
def kLo (x : Int) : UInt8 := UInt8.ofNat (IntKind.u8.wrap x).toNat
def kHi (x : Int) : UInt8 := UInt8.ofNat (IntKind.u8.wrap (x.fdiv (2 ^ min 8 IntKind.i64.bits))).toNat
theorem wrap_u8 (x : Int) : IntKind.u8.wrap x = x % 256 := by
  simp only [IntKind.wrap, IntKind.bits, IntKind.signed, Bool.false_eq_true, if_false]
  rfl
theorem u8_back (x : Int) : ((UInt8.ofNat (x % 256).toNat).toNat : Int) = x % 256 := by
  have h1 : 0 ≤ x % 256 := Int.emod_nonneg _ (by decide)
  have h2 : x % 256 < 256 := Int.emod_lt_of_pos _ (by decide)
  rw [UInt8.toNat_ofNat']
  omega
theorem kLo_val (x : Int) : D.v (.int .u8 (IntKind.u8.wrap x)) = u8 (kLo x) := by
  rw [u8, kLo, wrap_u8, u8_back]
theorem kHi_val (x : Int) : D.v (.int .u8 (IntKind.u8.wrap (x.fdiv (2 ^ min 8 IntKind.i64.bits)))) = u8 (kHi x) := by
  rw [u8, kHi, wrap_u8, u8_back]
theorem kLH {x y : Int} (hx : -1 ≤ x ∧ x < 65535) (hy : -1 ≤ y ∧ y < 65535) (h1 : kLo x = kLo y) (h2 : kHi x = kHi y) : x = y := by
  have m : min 8 IntKind.i64.bits = 8 := rfl
  have e1 : x % 256 = y % 256 := by
    rw [← u8_back x, ← u8_back y, ← wrap_u8, ← wrap_u8]
    exact congrArg (fun b : UInt8 => ((b.toNat : Nat) : Int)) h1
  have e2 : (x / 256) % 256 = (y / 256) % 256 := by
    unfold kHi at h2
    rw [m, wrap_u8, wrap_u8] at h2
    have := congrArg (fun b : UInt8 => ((b.toNat : Nat) : Int)) h2
    simp only [u8_back] at this
    rw [Int.fdiv_eq_ediv_of_nonneg _ (by decide), Int.fdiv_eq_ediv_of_nonneg _ (by decide)] at this
    exact this
  omega
def kBy (l : List Int) : List UInt8 := l.flatMap fun x => [kLo x, kHi x]
def kStr (l : List Int) : ByteArray := ⟨(kBy l).toArray⟩
theorem kBy_snoc (l : List Int) (x : Int) : kBy (l ++ [x]) = kBy l ++ [kLo x, kHi x] := by simp [kBy]
theorem kBy_len (l : List Int) : (kBy l).length = 2 * l.length := by
  induction l with
  | nil => rfl
  | cons x l ih => rw [kBy, List.flatMap_cons, List.length_append, show (l.flatMap fun x => [kLo x, kHi x]) = kBy l from rfl, ih]; simp; omega
theorem kBy_inj : ∀ {l m : List Int}, (∀ x ∈ l, -1 ≤ x ∧ x < 65535) → (∀ x ∈ m, -1 ≤ x ∧ x < 65535) → kBy l = kBy m → l = m
  | [], [], _, _, _ => rfl
  | [], _ :: _, _, _, h => by simp [kBy] at h
  | _ :: _, [], _, _, h => by simp [kBy] at h
  | x :: l, y :: m, hl, hm, h => by
    simp only [kBy, List.flatMap_cons, List.cons_append, List.nil_append, List.cons.injEq] at h
    obtain ⟨h1, h2, h3⟩ := h
    rw [kLH (hl x (by simp)) (hm y (by simp)) h1 h2, kBy_inj (fun z hz => hl z (by simp [hz])) (fun z hz => hm z (by simp [hz])) h3]
theorem kStr_eq {l m : List Int} (hl : ∀ x ∈ l, -1 ≤ x ∧ x < 65535) (hm : ∀ x ∈ m, -1 ≤ x ∧ x < 65535) : (kStr l == kStr m) = (l == m) := by
  rw [Bool.eq_iff_iff, Go.MapKept.bytes_beq, beq_iff_eq]
  constructor
  · intro h
    have : (kBy l).toArray = (kBy m).toArray := congrArg ByteArray.data h
    exact kBy_inj hl hm (by simpa using congrArg Array.toList this)
  · rintro rfl; rfl
def kTo (lv : List Bool) (c : List Int) (t : Int) : Int := if (decide (t ≥ 0) && lv.getD t.toNat false) = true then c.getD t.toNat 0 else -1
def keyL (N : List (List Int)) (lv : List Bool) (c : List Int) (s : Nat) : List Int := c.getD s 0 :: (N.getD s []).map (kTo lv c)
set_option maxRecDepth 20000 in
set_option maxHeartbeats 16000000 in
theorem c_key {L k : Nat} {N : List (List Int)} (h : NOk L k N) (st : Nat) (f g : Bool) (F lv : List Bool) (c : List Int) (hlv : lv.length = k) (hc : c.length = k) (hL : L ≤ 100000) (hk : k ≤ 2000) (s : Nat) (hs : s < k) :
    Contract Try.prog 56 [dfaD L st F N, .sl f (ints c), .sl g (bos lv), i64 s] (.v (.string (kStr (keyL N lv c s)))) [] := by
  refine contract_of_awp (rs := [8]) Try.func56 rfl Try.ntmps56 (by simp) rfl fun E => ?_
  have hl := h.len
  have hrow := h.get hs
  have hgi := iis_get (l := N) (i := s) (by omega)
  have hgc := ints_get (l := c) (i := s) (by omega)
  have hu : IntKind.u64.wrap 8 = 8 := rfl
  (repeat (first | refine awp_seq ?_ | refine awp_block ?_ | ((first | refine awp_skip ?_ | refine awp_exit ?_ | refine awp_reg ttok ?_ | (refine awp_draw ttok ?dr_calm ?_; (case dr_calm => decide +kernel)) | refine awp_condM ?_); simp (maxSteps := 4000000) only [↓reduceIte, Nat.reduceLT, Nat.reduceEqDiff, reduceCtorEq, Nat.reduceAdd, Nat.reduceMul, Int.reduceLE, Int.reduceLT, Int.reduceToNat, Nat.reduceLeDiff, Nat.reduceSub, Int.reduceEq, Nat.reduceBEq, evB, tyA, dfaD]; (repeat (with_reducible refine And.intro ?_ ?_; exact sdX)); (with_reducible first | refine awp_id ?_ | refine id_call ?_ | refine id_and ?_ | refine id_ex ?_ | refine id_all ?_ | refine id_nat ?_ | refine id_le ?_))))
  refine awp_drawG ttok ((0, none) :: (1, none) :: (2, none) :: (3, none) :: (4, none) :: (5, none) :: (6, none) :: (7, none) :: (8, none) :: (9, none) :: (10, none) :: (11, some []) :: (12, none) :: []) ([]) ([]) (by decide +kernel) fun O hO => ?_; simp only [OpsAre, Nat.reduceAdd, and_true, List.toList_toArray, List.append_eq, List.cons_append, List.nil_append] at hO; simp (maxSteps := 4000000) only [↓reduceIte, Nat.reduceLT, Nat.reduceEqDiff, reduceCtorEq, Nat.reduceAdd, Nat.reduceMul, Int.reduceLE, Int.reduceLT, Int.reduceToNat, Nat.reduceLeDiff, Nat.reduceSub, Int.reduceEq, Nat.reduceBEq, evB, tyA, hO, hgc, hc]; (repeat (with_reducible refine And.intro ?_ ?_; exact sdX))
  (repeat (first | refine awp_seq ?_ | refine awp_block ?_ | ((first | refine awp_skip ?_ | refine awp_exit ?_ | refine awp_reg ttok ?_ | (refine awp_draw ttok ?dr_calm ?_; (case dr_calm => decide +kernel)) | refine awp_condM ?_); simp (maxSteps := 4000000) only [↓reduceIte, Nat.reduceLT, Nat.reduceEqDiff, reduceCtorEq, Nat.reduceAdd, Nat.reduceMul, Int.reduceLE, Int.reduceLT, Int.reduceToNat, Nat.reduceLeDiff, Nat.reduceSub, Int.reduceEq, Nat.reduceBEq, evB, tyA, hgi, iis_len, hl, ints_len, hrow.1]; (repeat (with_reducible refine And.intro ?_ ?_; exact sdX)); (with_reducible first | refine awp_id ?_ | refine id_call ?_ | refine id_and ?_ | refine id_ex ?_ | refine id_all ?_ | refine id_nat ?_ | refine id_le ?_))))
  have r2 : ∀ x y : Int, [[D.v (Value.int IntKind.u8 (IntKind.u8.wrap x))], [D.v (Value.int IntKind.u8 (IntKind.u8.wrap (y.fdiv (2 ^ min 8 IntKind.i64.bits))))]] = bys [kLo x, kHi y] := fun x y => by rw [kLo_val, kHi_val]; rfl
  refine awp_loop (X := Nat) (fun j => mkS 58 [(1, .sl f (ints c)), (2, .sl g (bos lv)), (9, .own 2011 0 (kBy (c.getD s 0 :: ((N.getD s []).take j).map (kTo lv c))).length), (29, .sl false (ints (N.getD s []))), (30, i64 L), (31, i64 j)] [(2011, { sz := 1, rows := bys (kBy (c.getD s 0 :: ((N.getD s []).take j).map (kTo lv c))) })]) (fun j => j ≤ L) (fun j => L - j) 0 (Nat.zero_le _) (mkS_le rfl ?_ ?_) ?_
  · simp (maxSteps := 4000000) only [↓reduceIte, Nat.reduceLT, Nat.reduceEqDiff, reduceCtorEq, Nat.reduceAdd, Nat.reduceMul, Int.reduceLE, Int.reduceLT, Int.reduceToNat, Nat.reduceLeDiff, Nat.reduceSub, Int.reduceEq, Nat.reduceBEq, evB, kBy_len]
    try rfl
  · simp (maxSteps := 4000000) only [↓reduceIte, Nat.reduceLT, Nat.reduceEqDiff, reduceCtorEq, Nat.reduceAdd, Nat.reduceMul, Int.reduceLE, Int.reduceLT, Int.reduceToNat, Nat.reduceLeDiff, Nat.reduceSub, Int.reduceEq, Nat.reduceBEq, evB, r2]
    try rfl
  · intro j hj
    by_cases hlt : j < L
    · have d1 : decide ((j : Int) < (L : Int)) = true := by simpa using hlt
      have hwi : IntKind.i64.wrap ((j : Int) + 1) = ((j + 1 : Nat) : Int) := i64_in (by omega) (by omega)
      have hgj := ints_get (l := N.getD s []) (i := j) (by omega)
      have hst : c.getD s 0 :: ((N.getD s []).take (j + 1)).map (kTo lv c) = (c.getD s 0 :: ((N.getD s []).take j).map (kTo lv c)) ++ [kTo lv c ((N.getD s []).getD j 0)] := by
        rw [take_snoc (by omega) 0]; simp
      have hbl := kBy_len (c.getD s 0 :: ((N.getD s []).take j).map (kTo lv c))
      have hml : (c.getD s 0 :: ((N.getD s []).take j).map (kTo lv c)).length ≤ L + 1 := by simp; omega
      have hx : -1 ≤ (N.getD s []).getD j 0 ∧ (N.getD s []).getD j 0 < (k : Int) := by
        have hc' : j < (N.getD s []).length := by omega
        have e : (N.getD s []).getD j 0 = (N.getD s [])[j] := by
          generalize N.getD s [] = w at hc' ⊢
          simp [List.getD, List.getElem?_eq_getElem hc']
        rw [e]; exact hrow.2 _ (List.getElem_mem _)
      have hr1 := hrow.1
      generalize (c.getD s 0 :: ((N.getD s []).take j).map (kTo lv c)) = B at *
      generalize (N.getD s []).getD j 0 = x at *
      have hsh : ∀ z : Int, IntKind.i64.wrap z = IntKind.i64.wrap z := fun _ => rfl
      have htk : List.take (kBy B).length (kBy B) = kBy B := List.take_of_length_le (Nat.le_refl _)
      by_cases hx0 : x ≥ 0
      · obtain ⟨y, rfl⟩ := Int.eq_ofNat_of_zero_le hx0
        have e1 : decide (((y : Nat) : Int) ≥ 0) = true := by simp
        have hgb := bos_get (l := lv) (i := y) (by omega)
        have hgcy := ints_get (l := c) (i := y) (by omega)
        cases hq : lv.getD y false
        · rw [hq] at hgb
          have hkt : kTo lv c ((y : Nat) : Int) = -1 := by unfold kTo; rw [Int.toNat_natCast, hq, Bool.and_false, if_neg (by simp)]
          rw [hkt] at hst
          (repeat (first | refine awp_seq ?_ | refine awp_block ?_ | ((first | refine awp_skip ?_ | refine awp_exit ?_ | refine awp_reg ttok ?_ | (refine awp_draw ttok ?dr_calm ?_; (case dr_calm => decide +kernel)) | refine awp_condM ?_); simp (maxSteps := 4000000) only [↓reduceIte, Nat.reduceLT, Nat.reduceEqDiff, reduceCtorEq, Nat.reduceAdd, Nat.reduceMul, Int.reduceLE, Int.reduceLT, Int.reduceToNat, Nat.reduceLeDiff, Nat.reduceSub, Int.reduceEq, Nat.reduceBEq, evB, tyA, d1, hgj, ints_len, hr1, e1, bos_len, hlv, hc, hgb, hwi, r2, htk]; (repeat (with_reducible refine And.intro ?_ ?_; exact sdX)); (with_reducible first | refine awp_id ?_ | refine id_call ?_ | refine id_and ?_ | refine id_ex ?_ | refine id_all ?_ | refine id_nat ?_ | refine id_le ?_))))
          refine ⟨j + 1, by omega, by omega, mkS_le rfl ?_ ?_⟩
          · simp (maxSteps := 4000000) only [↓reduceIte, Nat.reduceLT, Nat.reduceEqDiff, reduceCtorEq, Nat.reduceAdd, Nat.reduceMul, Int.reduceLE, Int.reduceLT, Int.reduceToNat, Nat.reduceLeDiff, Nat.reduceSub, Int.reduceEq, Nat.reduceBEq, evB, hst, kBy_snoc, List.length_append]
            try rfl
          · simp (maxSteps := 4000000) only [↓reduceIte, Nat.reduceLT, Nat.reduceEqDiff, reduceCtorEq, Nat.reduceAdd, Nat.reduceMul, Int.reduceLE, Int.reduceLT, Int.reduceToNat, Nat.reduceLeDiff, Nat.reduceSub, Int.reduceEq, Nat.reduceBEq, evB, hst, kBy_snoc]
        · rw [hq] at hgb
          have hkt : kTo lv c ((y : Nat) : Int) = c.getD y 0 := by unfold kTo; rw [Int.toNat_natCast, hq, Bool.and_true, if_pos (by simp)]
          rw [hkt] at hst
          (repeat (first | refine awp_seq ?_ | refine awp_block ?_ | ((first | refine awp_skip ?_ | refine awp_exit ?_ | refine awp_reg ttok ?_ | (refine awp_draw ttok ?dr_calm ?_; (case dr_calm => decide +kernel)) | refine awp_condM ?_); simp (maxSteps := 4000000) only [↓reduceIte, Nat.reduceLT, Nat.reduceEqDiff, reduceCtorEq, Nat.reduceAdd, Nat.reduceMul, Int.reduceLE, Int.reduceLT, Int.reduceToNat, Nat.reduceLeDiff, Nat.reduceSub, Int.reduceEq, Nat.reduceBEq, evB, tyA, d1, hgj, ints_len, hr1, e1, bos_len, hlv, hc, hgb, hgcy, hwi, r2, htk]; (repeat (with_reducible refine And.intro ?_ ?_; exact sdX)); (with_reducible first | refine awp_id ?_ | refine id_call ?_ | refine id_and ?_ | refine id_ex ?_ | refine id_all ?_ | refine id_nat ?_ | refine id_le ?_))))
          refine ⟨j + 1, by omega, by omega, mkS_le rfl ?_ ?_⟩
          · simp (maxSteps := 4000000) only [↓reduceIte, Nat.reduceLT, Nat.reduceEqDiff, reduceCtorEq, Nat.reduceAdd, Nat.reduceMul, Int.reduceLE, Int.reduceLT, Int.reduceToNat, Nat.reduceLeDiff, Nat.reduceSub, Int.reduceEq, Nat.reduceBEq, evB, hst, kBy_snoc, List.length_append]
            try rfl
          · simp (maxSteps := 4000000) only [↓reduceIte, Nat.reduceLT, Nat.reduceEqDiff, reduceCtorEq, Nat.reduceAdd, Nat.reduceMul, Int.reduceLE, Int.reduceLT, Int.reduceToNat, Nat.reduceLeDiff, Nat.reduceSub, Int.reduceEq, Nat.reduceBEq, evB, hst, kBy_snoc]
      · have e1 : decide (x ≥ 0) = false := by simpa using hx0
        have hkt : kTo lv c x = -1 := by unfold kTo; rw [e1, Bool.false_and, if_neg (by simp)]
        rw [hkt] at hst
        (repeat (first | refine awp_seq ?_ | refine awp_block ?_ | ((first | refine awp_skip ?_ | refine awp_exit ?_ | refine awp_reg ttok ?_ | (refine awp_draw ttok ?dr_calm ?_; (case dr_calm => decide +kernel)) | refine awp_condM ?_); simp (maxSteps := 4000000) only [↓reduceIte, Nat.reduceLT, Nat.reduceEqDiff, reduceCtorEq, Nat.reduceAdd, Nat.reduceMul, Int.reduceLE, Int.reduceLT, Int.reduceToNat, Nat.reduceLeDiff, Nat.reduceSub, Int.reduceEq, Nat.reduceBEq, evB, tyA, d1, hgj, ints_len, hr1, e1, hwi, r2, htk]; (repeat (with_reducible refine And.intro ?_ ?_; exact sdX)); (with_reducible first | refine awp_id ?_ | refine id_call ?_ | refine id_and ?_ | refine id_ex ?_ | refine id_all ?_ | refine id_nat ?_ | refine id_le ?_))))
        refine ⟨j + 1, by omega, by omega, mkS_le rfl ?_ ?_⟩
        · simp (maxSteps := 4000000) only [↓reduceIte, Nat.reduceLT, Nat.reduceEqDiff, reduceCtorEq, Nat.reduceAdd, Nat.reduceMul, Int.reduceLE, Int.reduceLT, Int.reduceToNat, Nat.reduceLeDiff, Nat.reduceSub, Int.reduceEq, Nat.reduceBEq, evB, hst, kBy_snoc, List.length_append]
          try rfl
        · simp (maxSteps := 4000000) only [↓reduceIte, Nat.reduceLT, Nat.reduceEqDiff, reduceCtorEq, Nat.reduceAdd, Nat.reduceMul, Int.reduceLE, Int.reduceLT, Int.reduceToNat, Nat.reduceLeDiff, Nat.reduceSub, Int.reduceEq, Nat.reduceBEq, evB, hst, kBy_snoc]
    · have d1 : decide ((j : Int) < (L : Int)) = false := by simpa using hlt
      obtain rfl : j = L := by omega
      have hft : (N.getD s []).take j = N.getD s [] := List.take_of_length_le (by have := hrow.1; omega)
      rw [hft]
      (repeat (first | refine awp_seq ?_ | refine awp_block ?_ | ((first | refine awp_skip ?_ | refine awp_exit ?_ | refine awp_reg ttok ?_ | (refine awp_draw ttok ?dr_calm ?_; (case dr_calm => decide +kernel)) | refine awp_condM ?_); simp (maxSteps := 4000000) only [↓reduceIte, Nat.reduceLT, Nat.reduceEqDiff, reduceCtorEq, Nat.reduceAdd, Nat.reduceMul, Int.reduceLE, Int.reduceLT, Int.reduceToNat, Nat.reduceLeDiff, Nat.reduceSub, Int.reduceEq, Nat.reduceBEq, evB, tyA, d1]; (repeat (with_reducible refine And.intro ?_ ?_; exact sdX)); (with_reducible first | refine awp_id ?_ | refine id_call ?_ | refine id_and ?_ | refine id_ex ?_ | refine id_all ?_ | refine id_nat ?_ | refine id_le ?_))))
      refine awp_ret (ends_plain (.inr rfl) rfl ?_)
      simp (maxSteps := 4000000) only [↓reduceIte, Nat.reduceLT, Nat.reduceEqDiff, reduceCtorEq, Nat.reduceAdd, Nat.reduceMul, Int.reduceLE, Int.reduceLT, Int.reduceToNat, Nat.reduceLeDiff, Nat.reduceSub, Int.reduceEq, Nat.reduceBEq, evB, keyL, kStr, List.take_of_length_le (Nat.le_refl _)]
def ixM {α : Type} (kf : α → Value) (ks : List α) (n : Nat) : List (Value × Value) := (ks.zipIdx n).map fun p => (kf p.1, .int .i64 (p.2 : Int))
theorem ixM_cons {α : Type} (kf : α → Value) (y : α) (ks : List α) (n : Nat) : ixM kf (y :: ks) n = (kf y, .int .i64 (n : Int)) :: ixM kf ks (n + 1) := by simp [ixM]
theorem ixM_len {α : Type} (kf : α → Value) (ks : List α) (n : Nat) : (ixM kf ks n).length = ks.length := by simp [ixM]
theorem mget_ix {α : Type} [BEq α] [LawfulBEq α] (kf : α → Value) (x : α) : ∀ (ks : List α) (n : Nat), (∀ y ∈ ks, keyEq (kf x) (kf y) = (y == x)) → mget (kf x) (ixM kf ks n) = if ks.contains x = true then some (.int .i64 ((n + ks.idxOf x : Nat) : Int)) else none
  | [], _, _ => rfl
  | y :: ks, n, h => by
    rw [ixM_cons, mget, h y (by simp), mget_ix kf x ks (n + 1) fun z hz => h z (by simp [hz]), List.contains_cons, List.idxOf_cons]
    have e : (x == y) = (y == x) := by rw [Bool.eq_iff_iff, beq_iff_eq, beq_iff_eq]; exact eq_comm
    rw [e]
    cases hq : (y == x)
    · simp only [Bool.false_eq_true, if_false, Bool.false_or, cond_false]
      rw [show n + 1 + ks.idxOf x = n + (ks.idxOf x + 1) by omega]
    · simp
theorem mset_ix {α : Type} [BEq α] [LawfulBEq α] (kf : α → Value) (x : α) : ∀ (ks : List α) (n : Nat), (∀ y ∈ ks, keyEq (kf x) (kf y) = (y == x)) → ks.contains x = false → mset (kf x) (.int .i64 ((n + ks.length : Nat) : Int)) (ixM kf ks n) = ixM kf (ks ++ [x]) n
  | [], n, _, _ => by simp [ixM, mset]
  | y :: ks, n, h, hc => by
    rw [List.contains_cons, Bool.or_eq_false_iff] at hc
    have e : (y == x) = false := by rw [← hc.1, Bool.eq_iff_iff, beq_iff_eq, beq_iff_eq]; exact eq_comm
    rw [ixM_cons, mset, h y (by simp), e, List.cons_append, ixM_cons]
    simp only [Bool.false_eq_true, if_false]
    rw [← mset_ix kf x ks (n + 1) (fun z hz => h z (by simp [hz])) hc.2, List.length_cons, show n + 1 + ks.length = n + (ks.length + 1) by omega]
def addK (ks : List (List Int)) (x : List Int) : List (List Int) := if ks.contains x = true then ks else ks ++ [x]
def kst (N : List (List Int)) (lv : List Bool) (c : List Int) : Nat → List (List Int)
  | 0 => []
  | i + 1 => if lv.getD i false = true then addK (kst N lv c i) (keyL N lv c i) else kst N lv c i
def kAll (N : List (List Int)) (lv : List Bool) (c : List Int) : List (List Int) := kst N lv c N.length
def refI (N : List (List Int)) (lv : List Bool) (c : List Int) (i : Nat) : Int := if lv.getD i false = true then (((kAll N lv c).idxOf (keyL N lv c i) : Nat) : Int) else -1
def refL (N : List (List Int)) (lv : List Bool) (c : List Int) : List Int := (List.range N.length).map (refI N lv c)
def cls0 (F lv : List Bool) : List Int := (List.range F.length).map fun i => if lv.getD i false = true then (if F.getD i false = true then 1 else 0) else -1
def clsR (F : List Bool) (N : List (List Int)) : Nat → List Int
  | 0 => cls0 F (liveL F N)
  | r + 1 => refL N (liveL F N) (clsR F N r)
def cntR (F : List Bool) (N : List (List Int)) (r : Nat) : Nat := (kAll N (liveL F N) (clsR F N r)).length
def clsF (F : List Bool) (N : List (List Int)) : List Int := clsR F N (F.length + 2)
section
variable {N : List (List Int)} {lv : List Bool} {c : List Int}
theorem kst_pre (i : Nat) : ∃ t, kst N lv c (i + 1) = kst N lv c i ++ t ∧ (lv.getD i false = true → keyL N lv c i ∈ kst N lv c (i + 1)) := by
  rw [kst]
  split
  · unfold addK
    split
    · rename_i h1 h2
      exact ⟨[], by simp, fun _ => by simpa using h2⟩
    · exact ⟨[keyL N lv c i], rfl, fun _ => by simp⟩
  · rename_i h
    exact ⟨[], by simp, fun q => absurd q h⟩
theorem kst_pre2 (i : Nat) : ∀ j, ∃ t, kst N lv c (i + j) = kst N lv c i ++ t
  | 0 => ⟨[], by simp⟩
  | j + 1 => by
    obtain ⟨t, h⟩ := kst_pre2 i j
    obtain ⟨u, h2, _⟩ := kst_pre (N := N) (lv := lv) (c := c) (i + j)
    exact ⟨t ++ u, by rw [← Nat.add_assoc, h2, h, List.append_assoc]⟩
theorem kst_all {i : Nat} (hi : i ≤ N.length) : ∃ t, kAll N lv c = kst N lv c i ++ t := by
  obtain ⟨t, h⟩ := kst_pre2 (N := N) (lv := lv) (c := c) i (N.length - i)
  rw [show i + (N.length - i) = N.length by omega] at h
  exact ⟨t, h⟩
theorem kst_len : ∀ i, (kst N lv c i).length ≤ i
  | 0 => Nat.le_refl _
  | i + 1 => by
    have := kst_len i
    rw [kst]
    split
    · unfold addK
      split <;> simp <;> omega
    · omega
theorem kst_in {x : List Int} : ∀ {i : Nat}, x ∈ kst N lv c i → ∃ j, j < i ∧ lv.getD j false = true ∧ x = keyL N lv c j
  | 0, h => by cases h
  | i + 1, h => by
    rw [kst] at h
    split at h
    · rename_i hl
      unfold addK at h
      split at h
      · obtain ⟨j, h1, h2⟩ := kst_in h
        exact ⟨j, by omega, h2⟩
      · rcases List.mem_append.1 h with q | q
        · obtain ⟨j, h1, h2⟩ := kst_in q
          exact ⟨j, by omega, h2⟩
        · rw [List.mem_singleton] at q
          exact ⟨i, by omega, hl, q⟩
    · obtain ⟨j, h1, h2⟩ := kst_in h
      exact ⟨j, by omega, h2⟩
theorem kAll_mem {i : Nat} (hi : i < N.length) (hl : lv.getD i false = true) : keyL N lv c i ∈ kAll N lv c := by
  obtain ⟨_, _, h⟩ := kst_pre (N := N) (lv := lv) (c := c) i
  obtain ⟨t, ht⟩ := kst_all (N := N) (lv := lv) (c := c) (i := i + 1) hi
  rw [ht]; exact List.mem_append_left _ (h hl)
theorem refL_len : (refL N lv c).length = N.length := by simp [refL]
theorem refL_getE {i : Nat} (hi : i < (refL N lv c).length) : (refL N lv c)[i] = refI N lv c i := by simp [refL]
theorem refL_get {i : Nat} (hi : i < N.length) : (refL N lv c).getD i 0 = refI N lv c i := by simp [refL, List.getD, hi]
theorem refI_at {i : Nat} (hi : i < N.length) (hl : lv.getD i false = true) : refI N lv c i = (((kst N lv c (i + 1)).idxOf (keyL N lv c i) : Nat) : Int) := by
  obtain ⟨_, _, h⟩ := kst_pre (N := N) (lv := lv) (c := c) i
  obtain ⟨t, ht⟩ := kst_all (N := N) (lv := lv) (c := c) (i := i + 1) hi
  rw [refI, if_pos hl, ht, List.idxOf_append, if_pos (h hl)]
theorem refI_dead {i : Nat} (hl : lv.getD i false = false) : refI N lv c i = -1 := by rw [refI, if_neg (by rw [hl]; simp)]
theorem refI_bd (i : Nat) (hi : i < N.length) : -1 ≤ refI N lv c i ∧ refI N lv c i < (N.length : Int) := by
  rw [refI]
  split
  · rename_i hl
    have h1 := List.idxOf_lt_length_of_mem (kAll_mem (c := c) hi hl)
    have h2 := kst_len (N := N) (lv := lv) (c := c) N.length
    unfold kAll at h1 ⊢
    omega
  · omega
theorem refI_same {i j : Nat} (hi : i < N.length) (hj : j < N.length) (hl : lv.getD i false = true) (hm : lv.getD j false = true) : refI N lv c i = refI N lv c j ↔ keyL N lv c i = keyL N lv c j := by
  rw [refI, if_pos hl, refI, if_pos hm]
  constructor
  · intro h
    have e : (kAll N lv c).idxOf (keyL N lv c i) = (kAll N lv c).idxOf (keyL N lv c j) := by omega
    have h1 := List.idxOf_lt_length_of_mem (kAll_mem (c := c) hi hl)
    have g1 := List.getElem_idxOf h1
    have h2 := List.idxOf_lt_length_of_mem (kAll_mem (c := c) hj hm)
    have g2 := List.getElem_idxOf h2
    rw [← g1, ← g2]
    congr 1
  · intro h; rw [h]
theorem kst_heads {i : Nat} (hi : i ≤ N.length) {x : List Int} (hx : x ∈ kst N lv (refL N lv c) i) : 0 ≤ x.headD 0 ∧ x.headD 0 < ((kst N lv c i).length : Int) := by
  obtain ⟨j, hj, hl, rfl⟩ := kst_in hx
  have e : (keyL N lv (refL N lv c) j).headD 0 = refI N lv c j := by
    rw [keyL, List.headD_cons, refL_get (by omega)]
  rw [e, refI_at (by omega) hl]
  obtain ⟨_, _, h⟩ := kst_pre (N := N) (lv := lv) (c := c) j
  have h1 := List.idxOf_lt_length_of_mem (h hl)
  obtain ⟨t, ht⟩ := kst_pre2 (N := N) (lv := lv) (c := c) (j + 1) (i - (j + 1))
  rw [show j + 1 + (i - (j + 1)) = i by omega] at ht
  have h2 : (kst N lv c i).length = (kst N lv c (j + 1)).length + t.length := by rw [ht, List.length_append]
  omega
theorem kst_new {i : Nat} (hi : i < N.length) (hl : lv.getD i false = true) (hn : (kst N lv c i).contains (keyL N lv c i) = false) : (kst N lv (refL N lv c) i).contains (keyL N lv (refL N lv c) i) = false ∧ (keyL N lv (refL N lv c) i).headD 0 = ((kst N lv c i).length : Int) := by
  have e : (keyL N lv (refL N lv c) i).headD 0 = refI N lv c i := by
    rw [keyL, List.headD_cons, refL_get hi]
  have e1 : kst N lv c (i + 1) = addK (kst N lv c i) (keyL N lv c i) := by rw [kst, if_pos hl]
  have e2 : refI N lv c i = ((kst N lv c i).length : Int) := by
    rw [refI_at hi hl, e1, addK, if_neg (by rw [hn]; simp), List.idxOf_append, if_neg (by simpa using hn)]
    simp
  refine ⟨?_, by rw [e, e2]⟩
  rw [Bool.eq_false_iff]
  intro hc
  have := (kst_heads (i := i) (Nat.le_of_lt hi) (by simpa using hc)).2
  rw [e, e2] at this
  omega
theorem kst_step {i : Nat} (hi : i < N.length) : (kst N lv (refL N lv c) i).length + (kst N lv c (i + 1)).length ≤ (kst N lv (refL N lv c) (i + 1)).length + (kst N lv c i).length := by
  cases hl : lv.getD i false
  · simp only [kst, hl, Bool.false_eq_true, if_false]; omega
  · have e1 : kst N lv c (i + 1) = addK (kst N lv c i) (keyL N lv c i) := by rw [kst, if_pos hl]
    have e2 : kst N lv (refL N lv c) (i + 1) = addK (kst N lv (refL N lv c) i) (keyL N lv (refL N lv c) i) := by rw [kst, if_pos hl]
    cases hn : (kst N lv c i).contains (keyL N lv c i)
    · have h3 := (kst_new hi hl hn).1
      rw [e1, e2]
      simp only [addK, hn, h3, Bool.false_eq_true, if_false, List.length_append, List.length_cons, List.length_nil]
      omega
    · rw [e1, e2]
      simp only [addK, hn, if_true]
      split
      · omega
      · simp only [List.length_append, List.length_cons, List.length_nil]; omega
theorem kst_le : ∀ i, i ≤ N.length → (kst N lv c i).length ≤ (kst N lv (refL N lv c) i).length
  | 0, _ => Nat.le_refl _
  | i + 1, hi => by
    have h1 := kst_le i (by omega)
    have h2 := kst_step (lv := lv) (c := c) (N := N) (i := i) (by omega)
    omega
theorem kst_gap {i : Nat} (hi : i ≤ N.length) : ∀ j, i + j ≤ N.length → (kst N lv (refL N lv c) i).length + (kst N lv c (i + j)).length ≤ (kst N lv (refL N lv c) (i + j)).length + (kst N lv c i).length
  | 0, _ => by rw [Nat.add_zero]; omega
  | j + 1, h => by
    have h1 := kst_gap hi j (by omega)
    have h2 := kst_step (lv := lv) (c := c) (N := N) (i := i + j) (by omega)
    rw [← Nat.add_assoc]
    omega
theorem kst_stable (h : (kAll N lv (refL N lv c)).length = (kAll N lv c).length) : refL N lv (refL N lv c) = refL N lv c := by
  have hle : ∀ i, i ≤ N.length → (kst N lv c i).length = (kst N lv (refL N lv c) i).length := fun i hi => by
    have h1 := kst_le (lv := lv) (c := c) (N := N) i hi
    have h2 := kst_gap (lv := lv) (c := c) (N := N) (i := i) hi (N.length - i) (by omega)
    rw [show i + (N.length - i) = N.length by omega] at h2
    unfold kAll at h
    omega
  have hh : ∀ i, i ≤ N.length → (kst N lv (refL N lv c) i).map (fun x => x.headD 0) = (List.range (kst N lv c i).length).map fun (j : Nat) => (j : Int) := fun i => by
    induction i with
    | zero => intro _; rfl
    | succ i ih =>
      intro hi
      have ih := ih (by omega)
      cases hl : lv.getD i false
      · simp only [kst, hl, Bool.false_eq_true, if_false]; exact ih
      · have e1 : kst N lv c (i + 1) = addK (kst N lv c i) (keyL N lv c i) := by rw [kst, if_pos hl]
        have e2 : kst N lv (refL N lv c) (i + 1) = addK (kst N lv (refL N lv c) i) (keyL N lv (refL N lv c) i) := by rw [kst, if_pos hl]
        have l0 := hle i (by omega)
        have l1 := hle (i + 1) hi
        rw [e1, e2] at l1
        rw [e1, e2]
        cases hn : (kst N lv c i).contains (keyL N lv c i)
        · obtain ⟨h3, h4⟩ := kst_new (by omega) hl hn
          simp only [addK, hn, h3, Bool.false_eq_true, if_false, List.map_append, List.length_append, List.length_cons, List.length_nil, ih, List.map_cons, List.map_nil, h4, List.range_succ]
        · cases h3 : (kst N lv (refL N lv c) i).contains (keyL N lv (refL N lv c) i)
          · simp only [addK, hn, h3, Bool.false_eq_true, if_false, if_true, List.length_append, List.length_cons, List.length_nil] at l1
            omega
          · simp only [addK, hn, h3, if_true]; exact ih
  have hA := hh N.length (Nat.le_refl _)
  apply List.ext_getElem
  · rw [refL_len, refL_len]
  · intro i h1 h2
    have hi : i < N.length := by rw [refL_len] at h1; exact h1
    rw [refL_getE, refL_getE]
    cases hl : lv.getD i false
    · rw [refI_dead hl, refI_dead hl]
    · have hm := kAll_mem (c := refL N lv c) hi hl
      have h3 := List.idxOf_lt_length_of_mem hm
      have g3 := List.getElem_idxOf h3
      have e : (keyL N lv (refL N lv c) i).headD 0 = refI N lv c i := by
        rw [keyL, List.headD_cons, refL_get hi]
      have q : ((kAll N lv (refL N lv c)).map (fun x => x.headD 0))[(kAll N lv (refL N lv c)).idxOf (keyL N lv (refL N lv c) i)]'(by simpa using h3) = refI N lv c i := by
        rw [List.getElem_map, g3, e]
      have q2 : ((kAll N lv (refL N lv c)).map (fun x => x.headD 0))[(kAll N lv (refL N lv c)).idxOf (keyL N lv (refL N lv c) i)]'(by simpa using h3) = (((kAll N lv (refL N lv c)).idxOf (keyL N lv (refL N lv c) i) : Nat) : Int) := by
        have hA' : (kAll N lv (refL N lv c)).map (fun x => x.headD 0) = (List.range (kst N lv c N.length).length).map fun (j : Nat) => (j : Int) := hA
        simp only [hA', List.getElem_map, List.getElem_range]
      have : refI N lv (refL N lv c) i = (((kAll N lv (refL N lv c)).idxOf (keyL N lv (refL N lv c) i) : Nat) : Int) := by rw [refI, if_pos hl]
      rw [this, ← q2, q]
end
section
variable {F : List Bool} {N : List (List Int)}
theorem cntR_le (r : Nat) : cntR F N r ≤ cntR F N (r + 1) := kst_le N.length (Nat.le_refl _)
theorem cntR_top (r : Nat) : cntR F N r ≤ N.length := kst_len _
theorem clsR_stop {r : Nat} (h : cntR F N (r + 1) = cntR F N r) : ∀ j, clsR F N (r + 1 + j) = clsR F N (r + 1)
  | 0 => rfl
  | j + 1 => by
    rw [← Nat.add_assoc, clsR, clsR_stop h j]
    exact kst_stable h
theorem cntR_rise (r : Nat) : (∃ q, q < r ∧ cntR F N (q + 1) = cntR F N q) ∨ r ≤ cntR F N r := by
  induction r with
  | zero => exact .inr (Nat.zero_le _)
  | succ r ih =>
    rcases ih with ⟨q, h1, h2⟩ | h
    · exact .inl ⟨q, by omega, h2⟩
    · by_cases he : cntR F N (r + 1) = cntR F N r
      · exact .inl ⟨r, by omega, he⟩
      · right
        have := cntR_le (F := F) (N := N) r
        omega
theorem clsF_of (hl : N.length = F.length) {r : Nat} (h : cntR F N (r + 1) = cntR F N r) : clsR F N (r + 1) = clsF F N := by
  have key : ∃ q, q ≤ F.length ∧ cntR F N (q + 1) = cntR F N q := by
    rcases cntR_rise (F := F) (N := N) (F.length + 1) with ⟨q, h1, h2⟩ | g
    · exact ⟨q, by omega, h2⟩
    · have := cntR_top (F := F) (N := N) (F.length + 1); omega
  obtain ⟨q, h1, h2⟩ := key
  have e1 := clsR_stop h2 (F.length + 1 - q)
  rw [show q + 1 + (F.length + 1 - q) = F.length + 2 by omega] at e1
  unfold clsF
  rw [e1]
  rcases Nat.le_total r q with g | g
  · have := clsR_stop h (q - r)
    rw [show r + 1 + (q - r) = q + 1 by omega] at this
    exact this.symm
  · have := clsR_stop h2 (r - q)
    rw [show q + 1 + (r - q) = r + 1 by omega] at this
    exact this
theorem clsF_fix (hl : N.length = F.length) : refL N (liveL F N) (clsF F N) = clsF F N := by
  have key : ∃ q, q ≤ F.length ∧ cntR F N (q + 1) = cntR F N q := by
    rcases cntR_rise (F := F) (N := N) (F.length + 1) with ⟨q, h1, h2⟩ | g
    · exact ⟨q, by omega, h2⟩
    · have := cntR_top (F := F) (N := N) (F.length + 1); omega
  obtain ⟨q, h1, h2⟩ := key
  rw [← clsF_of hl h2]
  exact kst_stable h2
theorem clsR_len (hl : N.length = F.length) : ∀ r, (clsR F N r).length = F.length
  | 0 => by simp [clsR, cls0]
  | r + 1 => by rw [clsR, refL_len, hl]
theorem clsR_bd (hl : N.length = F.length) (hk : 1 ≤ F.length) : ∀ r, ∀ x ∈ clsR F N r, -1 ≤ x ∧ x < (F.length : Int) + 1
  | 0, x, hx => by
    simp only [clsR, cls0, List.mem_map, List.mem_range] at hx
    obtain ⟨i, hi, rfl⟩ := hx
    split
    · split <;> omega
    · omega
  | r + 1, x, hx => by
    simp only [clsR, refL, List.mem_map, List.mem_range] at hx
    obtain ⟨i, hi, rfl⟩ := hx
    have := refI_bd (lv := liveL F N) (c := clsR F N r) i hi
    omega
end
theorem getE {l : List Int} {a : Nat} (h : a < l.length) : l[a] = l.getD a 0 := by simp [List.getD, List.getElem?_eq_getElem h]
theorem toD_neg {N : List (List Int)} {s a : Int} (h : s < 0) : toD N s a = -1 := by unfold toD; rw [if_pos (.inl h)]
theorem ends_cons {F : List Bool} {N : List (List Int)} (s a : Int) (w : List Int) : endsD F N s (a :: w) = endsD F N (toD N s a) w := by
  unfold endsD
  rw [runD]
  by_cases h : s < 0
  · rw [if_pos h, toD_neg h, runD_neg (by decide)]
    simp [show ¬ 0 ≤ s by omega]
  · rw [if_neg h]
theorem ends_neg {F : List Bool} {N : List (List Int)} {s : Int} (h : s < 0) (w : List Int) : endsD F N s w = false := by
  unfold endsD
  rw [runD_neg h]
  simp [show ¬ 0 ≤ s by omega]
section
variable {L k : Nat} {N : List (List Int)} {F : List Bool}
theorem NOk.bnd (h : NOk L k N) (s : Nat) : ∀ t ∈ N.getD s [], t < (N.length : Int) := fun t ht => by
  rcases Nat.lt_or_ge s k with q | q
  · have := (h.get q).2 t ht
    have := h.len
    omega
  · simp [List.getD, List.getElem?_eq_none (show N.length ≤ s by have := h.len; omega)] at ht
theorem live_word (h : NOk L k N) (hF : F.length = k) {s : Nat} (hs : s < k) : (liveL F N).getD s false = true ↔ ∃ w, endsD F N s w = true := by
  have hl := h.len
  rw [live_iff (by omega) h.bnd (by omega)]
  constructor
  · exact run_of_lv (by omega)
  · rintro ⟨w, hw⟩
    have := lv_of_run (by omega) hw
    simpa using this
theorem dead_word (h : NOk L k N) (hF : F.length = k) {s : Nat} (hs : s < k) (hd : (liveL F N).getD s false = false) (w : List Int) : endsD F N s w = false := by
  cases he : endsD F N s w
  · rfl
  · have := (live_word h hF hs).2 ⟨w, he⟩
    rw [hd] at this; cases this
theorem toD_at (h : NOk L k N) {s : Nat} (hs : s < k) {a : Int} (ha : 0 ≤ a ∧ a < (L : Int)) : toD N s a = (N.getD s []).getD a.toNat 0 := by
  unfold toD
  rw [if_neg, Int.toNat_natCast]
  have h1 := h.len
  have h2 := (h.get hs).1
  rw [Int.toNat_natCast, h2]
  omega
theorem toD_far (h : NOk L k N) {s : Nat} (hs : s < k) {a : Int} (ha : ¬ (0 ≤ a ∧ a < (L : Int))) : toD N s a = -1 := by
  unfold toD
  rw [if_pos]
  have h2 := (h.get hs).1
  rw [Int.toNat_natCast, h2]
  omega
theorem kTo_neg {lv : List Bool} {c : List Int} {t : Int} (h : t < 0) : kTo lv c t = -1 := by
  unfold kTo
  rw [if_neg]
  simp only [Bool.and_eq_true, decide_eq_true_eq]
  omega
theorem kTo_to {lv : List Bool} {c : List Int} (h : NOk L k N) {i j : Nat} (hi : i < k) (hj : j < k) (hk : keyL N lv c i = keyL N lv c j) (a : Int) : kTo lv c (toD N i a) = kTo lv c (toD N j a) := by
  by_cases ha : 0 ≤ a ∧ a < (L : Int)
  · rw [toD_at h hi ha, toD_at h hj ha]
    unfold keyL at hk
    have e := (List.cons.inj hk).2
    have e2 := congrArg (fun l : List Int => l[a.toNat]?) e
    simp only [List.getElem?_map] at e2
    have l1 := (h.get hi).1
    have l2 := (h.get hj).1
    generalize N.getD i [] = u at *
    generalize N.getD j [] = v at *
    rw [List.getElem?_eq_getElem (by omega), List.getElem?_eq_getElem (by omega)] at e2
    simp only [Option.map_some, Option.some.injEq] at e2
    simp only [List.getD]
    rw [List.getElem?_eq_getElem (by omega), List.getElem?_eq_getElem (by omega)]
    exact e2
  · rw [toD_far h hi ha, toD_far h hj ha]
theorem clsF_get (h : NOk L k N) (hF : F.length = k) {i : Nat} (hi : i < k) : (clsF F N).getD i 0 = refI N (liveL F N) (clsF F N) i := by
  have hl := h.len
  have e := clsF_fix (F := F) (N := N) (by omega)
  have e2 := refL_get (N := N) (lv := liveL F N) (c := clsF F N) (i := i) (by omega)
  rw [e] at e2; exact e2
theorem clsF_live (h : NOk L k N) (hF : F.length = k) {i : Nat} (hi : i < k) : (liveL F N).getD i false = true ↔ 0 ≤ (clsF F N).getD i 0 := by
  rw [clsF_get h hF hi]
  cases hq : (liveL F N).getD i false
  · rw [refI_dead hq]; simp
  · rw [refI, if_pos hq]; simp
theorem clsF_key (h : NOk L k N) (hF : F.length = k) {i j : Nat} (hi : i < k) (hj : j < k) (li : (liveL F N).getD i false = true) (lj : (liveL F N).getD j false = true) : (clsF F N).getD i 0 = (clsF F N).getD j 0 ↔ keyL N (liveL F N) (clsF F N) i = keyL N (liveL F N) (clsF F N) j := by
  have hl := h.len
  rw [clsF_get h hF hi, clsF_get h hF hj, refI_same (by omega) (by omega) li lj]
theorem clsR_get0 {i : Nat} (hi : i < F.length) : (clsR F N 0).getD i 0 = if (liveL F N).getD i false = true then (if F.getD i false = true then 1 else 0) else -1 := by
  simp [clsR, cls0, List.getD, hi]
theorem clsR_fin (h : NOk L k N) (hF : F.length = k) {i j : Nat} (hi : i < k) (hj : j < k) (li : (liveL F N).getD i false = true) (lj : (liveL F N).getD j false = true) : ∀ r, (clsR F N r).getD i 0 = (clsR F N r).getD j 0 → F.getD i false = F.getD j false
  | 0, e => by
    rw [clsR_get0 (by omega), clsR_get0 (by omega), if_pos li, if_pos lj] at e
    cases h1 : F.getD i false <;> cases h2 : F.getD j false <;> simp only [h1, h2, if_true, Bool.false_eq_true, if_false] at e ⊢ <;> omega
  | r + 1, e => by
    have hl := h.len
    rw [clsR, refL_get (by omega), refL_get (by omega), refI_same (by omega) (by omega) li lj] at e
    exact clsR_fin h hF hi hj li lj r (List.cons.inj e).1
theorem lang_of_cls (h : NOk L k N) (hF : F.length = k) : ∀ (w : List Int) (i j : Nat), i < k → j < k → (liveL F N).getD i false = true → (liveL F N).getD j false = true → (clsF F N).getD i 0 = (clsF F N).getD j 0 → endsD F N i w = endsD F N j w
  | [], i, j, hi, hj, li, lj, e => by
    have := clsR_fin h hF hi hj li lj (F.length + 2) e
    simp only [endsD, runD, Int.toNat_natCast, this]
    simp
  | a :: w, i, j, hi, hj, li, lj, e => by
    rw [ends_cons, ends_cons]
    have hk := kTo_to h hi hj ((clsF_key h hF hi hj li lj).1 e) a
    have b1 := toD_ok h (i : Int) a
    have b2 := toD_ok h (j : Int) a
    generalize toD N i a = s at *
    generalize toD N j a = t at *
    have key : ∀ s : Int, (-1 ≤ s ∧ s < (k : Int) ∨ s = -1) → (kTo (liveL F N) (clsF F N) s = -1 ∧ endsD F N s w = false) ∨ ∃ n : Nat, s = (n : Int) ∧ n < k ∧ (liveL F N).getD n false = true ∧ kTo (liveL F N) (clsF F N) s = (clsF F N).getD n 0 := fun s hs => by
      by_cases h0 : s < 0
      · exact .inl ⟨kTo_neg h0, ends_neg h0 w⟩
      · obtain ⟨n, rfl⟩ := Int.eq_ofNat_of_zero_le (Int.not_lt.1 h0)
        have hn : n < k := by omega
        cases hq : (liveL F N).getD n false
        · refine .inl ⟨?_, dead_word h hF hn hq w⟩
          unfold kTo
          rw [Int.toNat_natCast, hq, Bool.and_false, if_neg (by simp)]
        · refine .inr ⟨n, rfl, hn, hq, ?_⟩
          unfold kTo
          rw [Int.toNat_natCast, hq, if_pos (by simp)]
    rcases key s b1 with ⟨k1, e1⟩ | ⟨n, rfl, n1, n2, k1⟩
    · rcases key t b2 with ⟨k2, e2⟩ | ⟨m, rfl, m1, m2, k2⟩
      · rw [e1, e2]
      · have := (clsF_live h hF m1).1 m2
        omega
    · rcases key t b2 with ⟨k2, e2⟩ | ⟨m, rfl, m1, m2, k2⟩
      · have := (clsF_live h hF n1).1 n2
        omega
      · exact lang_of_cls h hF w n m n1 m1 n2 m2 (by omega)
theorem cls_of_lang (h : NOk L k N) (hF : F.length = k) : ∀ (r : Nat) (i j : Nat), i < k → j < k → (liveL F N).getD i false = true → (liveL F N).getD j false = true → (∀ w, endsD F N i w = endsD F N j w) → (clsR F N r).getD i 0 = (clsR F N r).getD j 0
  | 0, i, j, hi, hj, li, lj, e => by
    rw [clsR_get0 (by omega), clsR_get0 (by omega), if_pos li, if_pos lj]
    have f : ∀ s : Nat, endsD F N s [] = F.getD s false := fun s => by
      simp only [endsD, runD, Int.toNat_natCast]; simp
    have := e []
    rw [f, f] at this
    rw [this]
  | r + 1, i, j, hi, hj, li, lj, e => by
    have hl := h.len
    rw [clsR, refL_get (by omega), refL_get (by omega), refI_same (by omega) (by omega) li lj]
    unfold keyL
    rw [cls_of_lang h hF r i j hi hj li lj e]
    congr 1
    have l1 := (h.get hi).1
    have l2 := (h.get hj).1
    apply List.ext_getElem
    · simp only [List.length_map]; omega
    · intro a h1 h2
      have ha : a < L := by rw [List.length_map] at h1; omega
      have t1 := toD_at h hi (a := (a : Int)) ⟨by omega, by omega⟩
      have t2 := toD_at h hj (a := (a : Int)) ⟨by omega, by omega⟩
      rw [Int.toNat_natCast] at t1 t2
      have b1 := toD_ok h (i : Int) (a : Int)
      have b2 := toD_ok h (j : Int) (a : Int)
      have hw : ∀ w, endsD F N (toD N i a) w = endsD F N (toD N j a) w := fun w => by rw [← ends_cons, ← ends_cons]; exact e _
      have x1 : (N.getD i [])[a]'(by omega) = toD N i a := by rw [t1]; exact getE _
      have x2 : (N.getD j [])[a]'(by omega) = toD N j a := by rw [t2]; exact getE _
      rw [List.getElem_map, List.getElem_map, x1, x2]
      generalize toD N i a = s at *
      generalize toD N j a = t at *
      have key : ∀ s : Int, (-1 ≤ s ∧ s < (k : Int) ∨ s = -1) → (kTo (liveL F N) (clsR F N r) s = -1 ∧ ∀ w, endsD F N s w = false) ∨ ∃ n : Nat, s = (n : Int) ∧ n < k ∧ (liveL F N).getD n false = true ∧ kTo (liveL F N) (clsR F N r) s = (clsR F N r).getD n 0 := fun s hs => by
        by_cases h0 : s < 0
        · exact .inl ⟨kTo_neg h0, ends_neg h0⟩
        · obtain ⟨n, rfl⟩ := Int.eq_ofNat_of_zero_le (Int.not_lt.1 h0)
          have hn : n < k := by omega
          cases hq : (liveL F N).getD n false
          · refine .inl ⟨?_, dead_word h hF hn hq⟩
            unfold kTo
            rw [Int.toNat_natCast, hq, Bool.and_false, if_neg (by simp)]
          · refine .inr ⟨n, rfl, hn, hq, ?_⟩
            unfold kTo
            rw [Int.toNat_natCast, hq, if_pos (by simp)]
      rcases key s b1 with ⟨k1, e1⟩ | ⟨n, rfl, n1, n2, k1⟩
      · rcases key t b2 with ⟨k2, e2⟩ | ⟨m, rfl, m1, m2, k2⟩
        · rw [k1, k2]
        · obtain ⟨w, hx⟩ := (live_word h hF m1).1 m2
          rw [← hw, e1] at hx; cases hx
      · rcases key t b2 with ⟨k2, e2⟩ | ⟨m, rfl, m1, m2, k2⟩
        · obtain ⟨w, hx⟩ := (live_word h hF n1).1 n2
          rw [hw, e2] at hx; cases hx
        · rw [k1, k2]
          exact cls_of_lang h hF r n m n1 m1 n2 m2 hw
end
def cde (L : Nat) : List Nat → Nat := List.foldl (fun c x => c * L + x + 1) 0
theorem cde_nil (L : Nat) : cde L [] = 0 := rfl
theorem cde_snoc (L : Nat) (w : List Nat) (x : Nat) : cde L (w ++ [x]) = cde L w * L + x + 1 := by simp [cde, List.foldl_append]
section
abbrev S2 := Int × Int
abbrev QE (α : Type) := α × Int × Int
def bStep (ch : S2 → Nat → Option S2) (z : S2) (i c : Nat) (q : List (QE S2)) : List (QE S2) := match ch (q.getD i (z, -1, -1)).1 c with
  | some t => if (q.any fun e => e.1 == t) = true then q else q ++ [(t, (i : Int), (c : Int))]
  | none => q
def bRow (ch : S2 → Nat → Option S2) (z : S2) (i : Nat) (q : List (QE S2)) : Nat → List (QE S2)
  | 0 => q
  | c + 1 => bStep ch z i c (bRow ch z i q c)
def bRun (ch : S2 → Nat → Option S2) : S2 → List Nat → Option S2
  | s, [] => some s
  | s, x :: w => (ch s x).bind fun t => bRun ch t w
theorem bRun_snoc (ch : S2 → Nat → Option S2) : ∀ (w : List Nat) (s : S2) (x : Nat), bRun ch s (w ++ [x]) = (bRun ch s w).bind fun t => ch t x
  | [], s, x => by simp [bRun]
  | y :: w, s, x => by
    simp only [List.cons_append, bRun]
    cases ch s y with
    | none => rfl
    | some t => simp only [Option.bind_some]; exact bRun_snoc ch w t x
def wordQ (z : S2) (q : List (QE S2)) : Nat → Nat → List Nat
  | 0, _ => []
  | n + 1, j => if (q.getD j (z, -1, -1)).2.1 < 0 then [] else wordQ z q n (q.getD j (z, -1, -1)).2.1.toNat ++ [(q.getD j (z, -1, -1)).2.2.toNat]
structure BInv (ch : S2 → Nat → Option S2) (z : S2) (L : Nat) (q : List (QE S2)) (i c : Nat) : Prop where
  pos : 1 ≤ q.length
  head : q.getD 0 (z, -1, -1) = (z, -1, -1)
  up : ∀ j, 1 ≤ j → j < q.length → ∃ u b : Nat, (q.getD j (z, -1, -1)).2 = ((u : Int), (b : Int)) ∧ u < j ∧ b < L ∧ ch (q.getD u (z, -1, -1)).1 b = some (q.getD j (z, -1, -1)).1 ∧ (u < i ∨ (u = i ∧ b < c))
  inc : ∀ j k, 1 ≤ j → j < k → k < q.length → (q.getD j (z, -1, -1)).2.1 < (q.getD k (z, -1, -1)).2.1 ∨ ((q.getD j (z, -1, -1)).2.1 = (q.getD k (z, -1, -1)).2.1 ∧ (q.getD j (z, -1, -1)).2.2 < (q.getD k (z, -1, -1)).2.2)
  dis : ∀ j k, j < k → k < q.length → (q.getD j (z, -1, -1)).1 ≠ (q.getD k (z, -1, -1)).1
  all : ∀ i' c', (i' < i ∧ c' < L ∨ i' = i ∧ c' < c) → i' < q.length → ∀ t, ch (q.getD i' (z, -1, -1)).1 c' = some t →
    ∃ j, j < q.length ∧ (q.getD j (z, -1, -1)).1 = t ∧ (j = 0 ∨ (q.getD j (z, -1, -1)).2.1 < (i' : Int) ∨ ((q.getD j (z, -1, -1)).2.1 = (i' : Int) ∧ (q.getD j (z, -1, -1)).2.2 ≤ (c' : Int)))
theorem getD_app_lt {α : Type} {l m : List α} {j : Nat} (h : j < l.length) (d : α) : (l ++ m).getD j d = l.getD j d := by
  simp [List.getD, List.getElem?_append_left h]
theorem getD_app_at {α : Type} {l : List α} {x : α} (d : α) : (l ++ [x]).getD l.length d = x := by
  simp [List.getD]
theorem BInv.init (ch : S2 → Nat → Option S2) (z : S2) (L : Nat) : BInv ch z L [(z, -1, -1)] 0 0 where
  pos := by simp
  head := rfl
  up := fun j h1 h2 => by simp at h2; omega
  inc := fun j k h1 h2 h3 => by simp at h3; omega
  dis := fun j k h1 h2 => by simp at h2; omega
  all := fun i' c' h => by omega
theorem BInv.step {ch : S2 → Nat → Option S2} {z : S2} {L : Nat} {q : List (QE S2)} {i c : Nat} (h : BInv ch z L q i c) (hi : i < q.length) (hc : c < L) : BInv ch z L (bStep ch z i c q) i (c + 1) := by
  have keep : ∀ t, ch (q.getD i (z, -1, -1)).1 c = some t → (q.any fun e => e.1 == t) = true → BInv ch z L q i (c + 1) := fun t ht ha => by
    refine ⟨h.pos, h.head, fun j h1 h2 => ?_, h.inc, h.dis, fun i' c' hq hl t' ht' => ?_⟩
    · obtain ⟨u, b, g1, g2, g3, g4, g5⟩ := h.up j h1 h2
      exact ⟨u, b, g1, g2, g3, g4, by omega⟩
    · by_cases hnew : i' = i ∧ c' = c
      · obtain ⟨rfl, rfl⟩ := hnew
        rw [ht] at ht'; cases ht'
        rw [List.any_eq_true] at ha
        obtain ⟨e, he, hee⟩ := ha
        obtain ⟨j, hj, rfl⟩ := List.getElem_of_mem he
        have eg : q.getD j (z, -1, -1) = q[j] := by simp [List.getD, List.getElem?_eq_getElem hj]
        refine ⟨j, hj, by rw [eg]; exact eq_of_beq hee, ?_⟩
        rcases Nat.eq_zero_or_pos j with rfl | hp
        · exact .inl rfl
        · obtain ⟨u, b, g1, g2, g3, g4, g5⟩ := h.up j hp hj
          rw [g1]; simp only; omega
      · exact h.all i' c' (by omega) hl t' ht'
  unfold bStep
  split
  · rename_i t ht
    split
    · rename_i ha; exact keep t ht ha
    · rename_i ha
      have hlen : (q ++ [(t, (i : Int), (c : Int))]).length = q.length + 1 := by simp
      have old : ∀ j, j < q.length → (q ++ [(t, (i : Int), (c : Int))]).getD j (z, -1, -1) = q.getD j (z, -1, -1) := fun j hj => getD_app_lt hj _
      have new : (q ++ [(t, (i : Int), (c : Int))]).getD q.length (z, -1, -1) = (t, (i : Int), (c : Int)) := getD_app_at _
      have hnot : ∀ j, j < q.length → (q.getD j (z, -1, -1)).1 ≠ t := fun j hj e => by
        apply ha
        rw [List.any_eq_true]
        refine ⟨q[j], List.getElem_mem _, ?_⟩
        have eg : q.getD j (z, -1, -1) = q[j] := by simp [List.getD, List.getElem?_eq_getElem hj]
        rw [← eg, e]; exact beq_self_eq_true _
      refine ⟨by omega, by rw [old 0 h.pos]; exact h.head, fun j h1 h2 => ?_, fun j k h1 h2 h3 => ?_, fun j k h1 h2 => ?_, fun i' c' hq hl t' ht' => ?_⟩
      · rcases Nat.lt_or_ge j q.length with g | g
        · obtain ⟨u, b, g1, g2, g3, g4, g5⟩ := h.up j h1 g
          exact ⟨u, b, by rw [old j g]; exact g1, g2, g3, by rw [old u (by omega), old j g]; exact g4, by omega⟩
        · obtain rfl : j = q.length := by omega
          exact ⟨i, c, by rw [new], by omega, hc, by rw [old i hi, new]; exact ht, by omega⟩
      · rcases Nat.lt_or_ge k q.length with g | g
        · rw [old j (by omega), old k g]; exact h.inc j k h1 h2 g
        · obtain rfl : k = q.length := by omega
          obtain ⟨u, b, g1, g2, g3, g4, g5⟩ := h.up j h1 (by omega)
          rw [old j (by omega), new, g1]
          simp only; omega
      · rcases Nat.lt_or_ge k q.length with g | g
        · rw [old j (by omega), old k g]; exact h.dis j k h1 g
        · obtain rfl : k = q.length := by omega
          rw [old j (by omega), new]; exact hnot j (by omega)
      · by_cases hnew : i' = i ∧ c' = c
        · obtain ⟨rfl, rfl⟩ := hnew
          rw [old _ hi, ht] at ht'; cases ht'
          refine ⟨q.length, by omega, by rw [new], ?_⟩
          rw [new]; simp
        · have hil : i' < q.length := by omega
          rw [old i' hil] at ht'
          obtain ⟨j, g1, g2, g3⟩ := h.all i' c' (by omega) hil t' ht'
          refine ⟨j, by omega, by rw [old j g1]; exact g2, ?_⟩
          rw [old j g1]; exact g3
  · rename_i hn
    refine ⟨h.pos, h.head, fun j h1 h2 => ?_, h.inc, h.dis, fun i' c' hq hl t' ht' => ?_⟩
    · obtain ⟨u, b, g1, g2, g3, g4, g5⟩ := h.up j h1 h2
      exact ⟨u, b, g1, g2, g3, g4, by omega⟩
    · by_cases hnew : i' = i ∧ c' = c
      · obtain ⟨rfl, rfl⟩ := hnew
        rw [hn] at ht'; cases ht'
      · exact h.all i' c' (by omega) hl t' ht'
theorem bStep_len (ch : S2 → Nat → Option S2) (z : S2) (i c : Nat) (q : List (QE S2)) : q.length ≤ (bStep ch z i c q).length := by
  unfold bStep
  split
  · split
    · exact Nat.le_refl _
    · simp
  · exact Nat.le_refl _
theorem BInv.row {ch : S2 → Nat → Option S2} {z : S2} {L : Nat} {q : List (QE S2)} {i : Nat} (h : BInv ch z L q i 0) (hi : i < q.length) : ∀ c, c ≤ L → BInv ch z L (bRow ch z i q c) i c ∧ i < (bRow ch z i q c).length
  | 0, _ => ⟨h, hi⟩
  | c + 1, hc => by
    obtain ⟨g1, g2⟩ := BInv.row h hi c (by omega)
    exact ⟨g1.step g2 (by omega), Nat.lt_of_lt_of_le g2 (bStep_len _ _ _ _ _)⟩
theorem BInv.next {ch : S2 → Nat → Option S2} {z : S2} {L : Nat} {q : List (QE S2)} {i : Nat} (h : BInv ch z L q i L) : BInv ch z L q (i + 1) 0 where
  pos := h.pos
  head := h.head
  up := fun j h1 h2 => by
    obtain ⟨u, b, g1, g2, g3, g4, g5⟩ := h.up j h1 h2
    exact ⟨u, b, g1, g2, g3, g4, by omega⟩
  inc := h.inc
  dis := h.dis
  all := fun i' c' hq => h.all i' c' (by omega)
theorem BInv.code {ch : S2 → Nat → Option S2} {z : S2} {L : Nat} {q : List (QE S2)} {i c : Nat} (h : BInv ch z L q i c) {n : Nat} (hn : q.length ≤ n) : ∀ j, j < q.length → ∀ m, j < m → m ≤ n →
    (∀ x ∈ wordQ z q m j, x < L) ∧ bRun ch z (wordQ z q m j) = some (q.getD j (z, -1, -1)).1 ∧ wordQ z q m j = wordQ z q n j ∧ (∀ j', j' < j → cde L (wordQ z q n j') < cde L (wordQ z q n j)) ∧
      (1 ≤ j → cde L (wordQ z q n j) = cde L (wordQ z q n (q.getD j (z, -1, -1)).2.1.toNat) * L + (q.getD j (z, -1, -1)).2.2.toNat + 1) := by
  intro j
  induction j using Nat.strongRecOn with
  | ind j ih =>
    intro hj m hm hmn
    obtain ⟨m', rfl⟩ : ∃ m', m = m' + 1 := ⟨m - 1, by omega⟩
    obtain ⟨n', rfl⟩ : ∃ n', n = n' + 1 := ⟨n - 1, by omega⟩
    rcases Nat.eq_zero_or_pos j with rfl | hp
    · have e : ∀ k, wordQ z q (k + 1) 0 = [] := fun k => by rw [wordQ, h.head]; simp
      refine ⟨by rw [e]; simp, by rw [e, h.head]; rfl, by rw [e, e], fun j' h' => by omega, fun h' => by omega⟩
    · obtain ⟨u, b, g1, g2, g3, g4, g5⟩ := h.up j hp hj
      have e : ∀ k, wordQ z q (k + 1) j = wordQ z q k u ++ [b] := fun k => by rw [wordQ, g1]; simp only; rw [if_neg (by omega)]; simp
      obtain ⟨i1, i2, i3, i4, _⟩ := ih u g2 (by omega) m' (by omega) (by omega)
      obtain ⟨k1, k2, k3, _⟩ := ih u g2 (by omega) n' (by omega) (by omega)
      refine ⟨?_, ?_, ?_, ?_, ?_⟩
      · rw [e]
        intro x hx
        rcases List.mem_append.1 hx with q1 | q1
        · exact i1 x q1
        · rw [List.mem_singleton.1 q1]; exact g3
      · rw [e, bRun_snoc, i2]; exact g4
      · rw [e, e, i3, k3]
      · intro j' hj'
        rw [e n', k3, cde_snoc]
        rcases Nat.eq_zero_or_pos j' with rfl | hp'
        · have e0 : wordQ z q (n' + 1) 0 = [] := by rw [wordQ, h.head]; simp
          rw [e0, cde_nil]; omega
        · obtain ⟨u', b', f1, f2, f3, f4, f5⟩ := h.up j' hp' (by omega)
          have e' : wordQ z q (n' + 1) j' = wordQ z q n' u' ++ [b'] := by rw [wordQ, f1]; simp only; rw [if_neg (by omega)]; simp
          obtain ⟨_, _, l3, l4, _⟩ := ih u' (by omega) (by omega) n' (by omega) (by omega)
          rw [e', cde_snoc, l3]
          have hinc := h.inc j' j hp' hj' hj
          rw [f1, g1] at hinc
          simp only at hinc
          rcases hinc with q1 | ⟨q1, q2⟩
          · have hcd := (ih u g2 (by omega) (n' + 1) (by omega) (Nat.le_refl _)).2.2.2.1 u' (by omega)
            have : (cde L (wordQ z q (n' + 1) u') + 1) * L ≤ cde L (wordQ z q (n' + 1) u) * L := Nat.mul_le_mul hcd (Nat.le_refl _)
            rw [Nat.add_mul, Nat.one_mul] at this
            omega
          · obtain rfl : u' = u := by omega
            omega
      · intro _
        rw [e n', k3, cde_snoc, g1]
        simp
theorem BInv.mono {ch : S2 → Nat → Option S2} {z : S2} {L : Nat} {q : List (QE S2)} {i c : Nat} (h : BInv ch z L q i c) {a b : Nat} (hab : a < b) (hb : b < q.length) : cde L (wordQ z q q.length a) < cde L (wordQ z q q.length b) :=
  (h.code (Nat.le_refl _) b hb q.length hb (Nat.le_refl _)).2.2.2.1 a hab
end
theorem nodup_len : ∀ (n : Nat) (l : List Nat), l.Nodup → (∀ x ∈ l, x < n) → l.length ≤ n
  | 0, l, _, h => by
    cases l with
    | nil => simp
    | cons x l => have := h x (by simp); omega
  | n + 1, l, hd, h => by
    have hd' : (l.erase n).Nodup := hd.erase n
    have := nodup_len n (l.erase n) hd' fun x hx => by
      have h1 := h x (List.mem_of_mem_erase hx)
      have h2 : x ≠ n := fun e => by subst e; exact (List.Nodup.not_mem_erase hd) hx
      omega
    have hl := List.length_erase (a := n) (l := l)
    split at hl <;> omega
section
theorem BInv.len {ch : S2 → Nat → Option S2} {z : S2} {L : Nat} {q : List (QE S2)} {i c : Nat} (h : BInv ch z L q i c) (enc : S2 → Nat) (B : Nat) (hz : enc z < B) (hb : ∀ s x t, ch s x = some t → enc t < B) (hinj : ∀ s t, (s = z ∨ ∃ r x, ch r x = some s) → (t = z ∨ ∃ r x, ch r x = some t) → enc s = enc t → s = t) : q.length ≤ B := by
  have hst : ∀ j, j < q.length → ((q.getD j (z, -1, -1)).1 = z ∨ ∃ r x, ch r x = some (q.getD j (z, -1, -1)).1) := fun j hj => by
    rcases Nat.eq_zero_or_pos j with rfl | hp
    · left; rw [h.head]
    · obtain ⟨u, b, _, _, _, g4, _⟩ := h.up j hp hj
      exact .inr ⟨_, _, g4⟩
  have hg : ∀ j (hj : j < q.length), q.getD j (z, -1, -1) = q[j] := fun j hj => by simp [List.getD, List.getElem?_eq_getElem hj]
  have := nodup_len B (q.map fun e => enc e.1) (by
    rw [List.nodup_iff_pairwise_ne, List.pairwise_iff_getElem]
    intro a b ha hb' hab e
    simp only [List.getElem_map, List.length_map] at ha hb' e
    have h1 := hst a ha
    have h2 := hst b hb'
    have h3 := h.dis a b hab hb'
    rw [hg a ha] at h1 h3
    rw [hg b hb'] at h2 h3
    exact h3 (hinj _ _ h1 h2 e)) (fun x hx => by
    obtain ⟨e, he, rfl⟩ := List.mem_map.1 hx
    obtain ⟨j, hj, rfl⟩ := List.getElem_of_mem he
    rcases hst j hj with q1 | ⟨r, x, q1⟩
    · rw [hg j hj] at q1; rw [q1]; exact hz
    · rw [hg j hj] at q1; exact hb _ _ _ q1)
  simpa using this
end
end Go.Proofs.Ytkpplakjdcpoaaa
