/-
  The contract of the law MendAreas.
-/
import Derived.Test.YtmfonlkigjpjcaaMdFo
import Derived.Test.YtmfonlkigjpjcaaSn7
import Derived.Test.YtmfonlkigjpjcaaSnHd
namespace Go.Proofs.Ytmfonlkigjpjcaa
open Go.Ab
set_option linter.unusedSimpArgs false
set_option linter.unusedVariables false

/-- The second area behind a turn that is cut. -/
theorem cut_area {Pa Pb : List UInt8} (ha : (frameOf Pa).length ≤ 992) (hb : (frameOf Pb).length ≤ 992) (c : Nat) :
    ∃ h1 b1, (doD (planW 1 2 Pb) c (fmtD Pa)).2.1 = dsk (headB 1) (mz (frameOf Pa)) h1 b1 ∧ h1.length = 32 ∧ b1.length = 992 ∧ ((genOk h1 = false ∧ c < 1024) ∨ (genOk h1 = true ∧ genV h1 = 2 ∧ b1 = mz (frameOf Pb) ∧ 992 < c)) := by
  have hD : DOk (headB 1) (mz (frameOf Pa)) (zer 32) (zer 992) := ⟨headB_len 1, mz_len ha, zer_len 32, zer_len 992⟩
  have hh := headB_len 2
  have hz := zer_len 32
  have hz2 := zer_len 992
  have hm := mz_len hb
  rw [fmtD, (doD_plan1 hD hb c).2]
  by_cases h : c < 992
  · rw [if_pos h]
    exact ⟨zer 32, _, rfl, hz, by simp [hm, hz2]; omega, .inl ⟨genz, by omega⟩⟩
  · rw [if_neg h]
    have hl : ((headB 2).take (c - 992) ++ (zer 32).drop (c - 992)).length = 32 := by rw [List.length_append, List.length_take, List.length_drop, hh, hz]; omega
    refine ⟨_, _, rfl, hl, hm, ?_⟩
    by_cases h2 : c = 992
    · subst h2
      exact .inl ⟨by rw [Nat.sub_self, List.take_zero, List.drop_zero, List.nil_append]; exact genz, by omega⟩
    · cases hg : genOk ((headB 2).take (c - 992) ++ (zer 32).drop (c - 992))
      · refine .inl ⟨rfl, ?_⟩
        rcases Nat.lt_or_ge c 1024 with q | q
        · exact q
        · rw [List.take_of_length_le (by omega), List.drop_of_length_le (by omega), List.append_nil, (gen_head 2).1] at hg
          cases hg
      · refine .inr ⟨rfl, ?_, rfl, by omega⟩
        rcases Nat.lt_or_ge c 1024 with q | q
        · have e : (zer 32).drop (c - 992) = zer (32 - (c - 992)) := by rw [zer, zer, List.drop_replicate]
          rw [e] at hg ⊢
          rw [genV, hg, if_pos rfl, zero_gen (by omega) hg]
          rfl
        · rw [List.take_of_length_le (by omega), List.drop_of_length_le (by omega), List.append_nil, headV]
          rfl

set_option maxRecDepth 20000 in
set_option maxHeartbeats 16000000 in
theorem c_MendAreas (a b a' b' : Int) (f g f' g' : Bool) (l l' : List (Int × List Int)) (k k' : List Int) (p q : Int) :
    Contract Try.prog 3 [.agg [i64 a, i64 b, .sl f (srs l), .sl g (ints k)], .agg [i64 a', i64 b', .sl f' (srs l'), .sl g' (ints k')], .agg [i64 p, i64 q]] (bo true) [] := by
  refine contract_of_awp (rs := [6]) Try.func3 rfl Try.ntmps3 (by simp) rfl fun E => ?_
  have hmi := mayI a b l
  have hts : List.take (min l.length 4) (sentsI l 4) = sentsI l 4 := List.take_of_length_le (by simp [sentsI]; omega)
  have htq : List.take (min l.length 4) (takenI l 4) = takenI l 4 := List.take_of_length_le (by simp [takenI]; omega)
  have hsl : (sentsI l 4).length = min l.length 4 := by simp [sentsI]; omega
  have hql : (takenI l 4).length = min l.length 4 := by simp [takenI]; omega
  have hmi' := mayI a' b' l'
  have hts' : List.take (min l'.length 4) (sentsI l' 4) = sentsI l' 4 := List.take_of_length_le (by simp [sentsI]; omega)
  have htq' : List.take (min l'.length 4) (takenI l' 4) = takenI l' 4 := List.take_of_length_le (by simp [takenI]; omega)
  have hsl' : (sentsI l' 4).length = min l'.length 4 := by simp [sentsI]; omega
  have hql' : (takenI l' 4).length = min l'.length 4 := by simp [takenI]; omega
  (repeat (first | refine awp_seq ?_ | refine awp_block ?_ | ((first | refine awp_skip ?_ | refine awp_exit ?_ | refine awp_reg ttok ?_ | (refine awp_draw ttok ?dr_calm ?_; (case dr_calm => decide +kernel)) | refine awp_condM ?_); simp (maxSteps := 4000000) only [↓reduceIte, Nat.reduceLT, Nat.reduceEqDiff, reduceCtorEq, Nat.reduceAdd, Nat.reduceMul, Int.reduceLE, Int.reduceLT, Int.reduceToNat, Nat.reduceLeDiff, Nat.reduceSub, Int.reduceEq, Nat.reduceBEq, List.replicate, List.set, if_false, if_true, ne_eq, false_implies, implies_true, evA, tyA]; (repeat (with_reducible refine And.intro ?_ ?_; focus ((repeat' with_reducible apply And.intro) <;> (first | omega | with_reducible trivial | with_reducible assumption)))); (with_reducible first | refine awp_id ?_ | refine id_call ?_ | refine id_and ?_ | refine id_ex ?_ | refine id_all ?_ | refine id_le ?_))))
  obtain ⟨n1, hn1⟩ : ∃ n, n = min l.length 4 := ⟨_, rfl⟩
  obtain ⟨n2, hn2⟩ : ∃ n, n = min l'.length 4 := ⟨_, rfl⟩
  have hI1 := c_Image a b f g l k
  have hI2 := c_Image a' b' f' g' l' k'
  have hn14 : n1 ≤ 4 := by omega
  have hn24 : n2 ≤ 4 := by omega
  have ha65 := lowB_le 65535 a (by decide)
  have ha65' := lowB_le 65535 a' (by decide)
  rw [← hn1] at hts htq hsl hql hI1
  rw [← hn2] at hts' htq' hsl' hql' hI2
  generalize lowB 65535 a = A0 at *
  generalize lowB 255 b = B0 at *
  generalize sentsI l 4 = S at *
  generalize takenI l 4 = Q at *
  generalize lowB 65535 a' = A1 at *
  generalize lowB 255 b' = B1 at *
  generalize sentsI l' 4 = S' at *
  generalize takenI l' 4 = Q' at *
  refine awp_drawS ttok (mkS 156 [(5, .ptr 1002 0 0), (6, bo false), (7, .ptr 2004 0 0), (8, .ptr 2005 0 0)] [(1002, { sz := 2, rows := [[i64 p, i64 q]], flat := false }), (2004, { sz := 4, rows := [[i64 (A0 : Int), i64 (B0 : Int), .own 102001 0 n1, .own 102002 0 n1]], flat := false }), (2005, { sz := 4, rows := [[i64 (A1 : Int), i64 (B1 : Int), .own 102003 0 n2, .own 102004 0 n2]], flat := false }), (102001, { sz := 2, rows := srs S }), (102002, { sz := 1, rows := ints Q }), (102003, { sz := 2, rows := srs S' }), (102004, { sz := 1, rows := ints Q' })]) (.nd 1 4 (.nd 1 5 (.nd 4 5 .lf .lf) (.nd 3 5 .lf .lf)) (.nd 1 5 (.nd 3 4 .lf .lf) (.nd 3 4 (.nd 3 5 (.nd 4 5 .lf .lf) .lf) (.nd 3 5 .lf (.nd 4 5 .lf .lf))))) [((0, none) :: (2, none) :: (5, some [0, 2]) :: (4, some [0, 2]) :: (1, some [2]) :: (3, some []) :: (6, some []) :: (7, some []) :: []), ((0, none) :: (2, none) :: (4, some [0, 2]) :: (5, some [0, 2]) :: (1, some [2]) :: (3, some []) :: (6, some []) :: (7, some []) :: []), ((0, none) :: (2, none) :: (4, some [0, 2]) :: (1, some [2]) :: (5, some [2]) :: (3, some []) :: (6, some []) :: (7, some []) :: []), ((0, none) :: (2, none) :: (4, some [0, 2]) :: (1, some [2]) :: (3, some []) :: (5, some []) :: (6, some []) :: (7, some []) :: []), ((0, none) :: (2, none) :: (5, some [0, 2]) :: (1, some [2]) :: (4, some [2]) :: (3, some []) :: (6, some []) :: (7, some []) :: []), ((0, none) :: (2, none) :: (5, some [0, 2]) :: (1, some [2]) :: (3, some []) :: (4, some []) :: (6, some []) :: (7, some []) :: []), ((0, none) :: (2, none) :: (1, some [2]) :: (5, some [2]) :: (4, some [2]) :: (3, some []) :: (6, some []) :: (7, some []) :: []), ((0, none) :: (2, none) :: (1, some [2]) :: (4, some [2]) :: (5, some [2]) :: (3, some []) :: (6, some []) :: (7, some []) :: []), ((0, none) :: (2, none) :: (1, some [2]) :: (4, some [2]) :: (3, some []) :: (5, some []) :: (6, some []) :: (7, some []) :: []), ((0, none) :: (2, none) :: (1, some [2]) :: (5, some [2]) :: (3, some []) :: (4, some []) :: (6, some []) :: (7, some []) :: []), ((0, none) :: (2, none) :: (1, some [2]) :: (3, some []) :: (5, some []) :: (4, some []) :: (6, some []) :: (7, some []) :: []), ((0, none) :: (2, none) :: (1, some [2]) :: (3, some []) :: (4, some []) :: (5, some []) :: (6, some []) :: (7, some []) :: [])] [0, 2, 1, 3, 4, 5, 6, 7] [0, 1, 2, 3, 4, 5, 6, 7] [0, 1, 2, 3, 4, 5, 6, 7] (by decide +kernel) ?_ (fun O hO => ?_)
  rotate_left
  · simp only [OpsAre, Nat.reduceAdd, and_true, List.toList_toArray, List.append_eq, List.cons_append, List.nil_append] at hO
    refine ⟨?_, ?_, ?_, ?_, ?_, ?_, ?_, ?_, ?_, ?_, ?_, ?_, trivial⟩
    all_goals
      simp (maxSteps := 4000000) only [↓reduceIte, Nat.reduceLT, Nat.reduceEqDiff, reduceCtorEq, Nat.reduceAdd, Nat.reduceMul, Int.reduceLE, Int.reduceLT, Int.reduceToNat, Nat.reduceLeDiff, Nat.reduceSub, Int.reduceEq, Nat.reduceBEq, List.replicate, List.set, if_false, if_true, ne_eq, false_implies, implies_true, evA, tyA, hO]
      (repeat (with_reducible refine And.intro ?_ ?_; focus ((repeat' with_reducible apply And.intro) <;> (first | omega | with_reducible trivial | with_reducible assumption))))
      refine callVC_mk fnok6 hI1 rfl ?_
      simp (maxSteps := 4000000) only [↓reduceIte, Nat.reduceLT, Nat.reduceEqDiff, reduceCtorEq, Nat.reduceAdd, Nat.reduceMul, Int.reduceLE, Int.reduceLT, Int.reduceToNat, Nat.reduceLeDiff, Nat.reduceSub, Int.reduceEq, Nat.reduceBEq, List.replicate, List.set, if_false, if_true, ne_eq, false_implies, implies_true, evA, tyA, hO]
      (repeat (with_reducible refine And.intro ?_ ?_; focus ((repeat' with_reducible apply And.intro) <;> (first | omega | with_reducible trivial | with_reducible assumption))))
      refine callVC_mk fnok6 hI2 rfl ?_
      simp (maxSteps := 4000000) only [↓reduceIte, Nat.reduceLT, Nat.reduceEqDiff, reduceCtorEq, Nat.reduceAdd, Nat.reduceMul, Int.reduceLE, Int.reduceLT, Int.reduceToNat, Nat.reduceLeDiff, Nat.reduceSub, Int.reduceEq, Nat.reduceBEq, List.replicate, List.set, if_false, if_true, ne_eq, false_implies, implies_true, evA, tyA, hO]
      (repeat (with_reducible refine And.intro ?_ ?_; focus ((repeat' with_reducible apply And.intro) <;> (first | omega | with_reducible trivial | with_reducible assumption))))
      refine mkS_le rfl ?_ ?_
      · simp (maxSteps := 4000000) only [↓reduceIte, Nat.reduceLT, Nat.reduceEqDiff, reduceCtorEq, Nat.reduceAdd, Nat.reduceMul, Int.reduceLE, Int.reduceLT, Int.reduceToNat, Nat.reduceLeDiff, Nat.reduceSub, Int.reduceEq, Nat.reduceBEq, List.replicate, List.set, if_false, if_true, ne_eq, false_implies, implies_true, evA]
      · simp (maxSteps := 4000000) only [↓reduceIte, Nat.reduceLT, Nat.reduceEqDiff, reduceCtorEq, Nat.reduceAdd, Nat.reduceMul, Int.reduceLE, Int.reduceLT, Int.reduceToNat, Nat.reduceLeDiff, Nat.reduceSub, Int.reduceEq, Nat.reduceBEq, List.replicate, List.set, if_false, if_true, ne_eq, false_implies, implies_true, evA]
  obtain ⟨x1, x2⟩ := snapNums_bd (z := 1) hmi (by decide)
  have x3 := cps_small (z := 1) hmi (by decide) (by omega)
  obtain ⟨y1, y2⟩ := snapNums_bd (z := 2) hmi' (by decide)
  have y3 := cps_small (z := 2) hmi' (by decide) (by omega)
  obtain ⟨z1, z2⟩ := snapNums_bd (z := 3) hmi' (by decide)
  have z3 := cps_small (z := 3) hmi' (by decide) (by omega)
  obtain ⟨Pa, hPa⟩ : ∃ P, P = cps (snapNums 1 (A0 : Int) (B0 : Int) S Q) := ⟨_, rfl⟩
  obtain ⟨Pb, hPb⟩ : ∃ P, P = cps (snapNums 2 (A1 : Int) (B1 : Int) S' Q') := ⟨_, rfl⟩
  obtain ⟨Pc, hPc⟩ : ∃ P, P = cps (snapNums 3 (A1 : Int) (B1 : Int) S' Q') := ⟨_, rfl⟩
  rw [← hPa] at x1 x2 x3
  rw [← hPb] at y1 y2 y3
  rw [← hPc] at z1 z2 z3
  obtain ⟨w0, hw0, hFo⟩ := c_Format (A0 : Int) (B0 : Int) false false S Q hmi Pa hPa (by omega) (by omega)
  have hPl := c_Plan 1 2 (A1 : Int) (B1 : Int) 1 rfl 2 rfl false false S' Q' hmi' (by decide) (by decide) Pb hPb (by omega) (by omega)
  have hPl3 := c_Plan 0 3 (A1 : Int) (B1 : Int) 0 rfl 3 rfl false false S' Q' hmi' (by decide) (by decide) Pc hPc (by omega) (by omega)
  have fla := frameOf_len Pa
  have flb := frameOf_len Pb
  have flc := frameOf_len Pc
  have kt : (!true) = false := rfl
  have kf : (!false) = true := rfl
  (repeat (first | refine awp_seq ?_ | refine awp_block ?_ | ((first | refine awp_skip ?_ | refine awp_exit ?_ | refine awp_reg ttok ?_ | (refine awp_draw ttok ?dr_calm ?_; (case dr_calm => decide +kernel)) | refine awp_condM ?_); simp (maxSteps := 4000000) only [↓reduceIte, Nat.reduceLT, Nat.reduceEqDiff, reduceCtorEq, Nat.reduceAdd, Nat.reduceMul, Int.reduceLE, Int.reduceLT, Int.reduceToNat, Nat.reduceLeDiff, Nat.reduceSub, Int.reduceEq, Nat.reduceBEq, List.replicate, List.set, if_false, if_true, ne_eq, false_implies, implies_true, evA, tyA, srs_take, hts, htq, srs_len, hsl, hql]; (repeat (with_reducible refine And.intro ?_ ?_; focus ((repeat' with_reducible apply And.intro) <;> (first | omega | with_reducible trivial | with_reducible assumption)))); (with_reducible first | refine awp_id ?_ | refine id_call ?_ | refine id_and ?_ | refine id_ex ?_ | refine id_all ?_ | refine id_le ?_))))
  refine callVC_mk fnok7 hFo rfl ?_
  simp (maxSteps := 4000000) only [↓reduceIte, Nat.reduceLT, Nat.reduceEqDiff, reduceCtorEq, Nat.reduceAdd, Nat.reduceMul, Int.reduceLE, Int.reduceLT, Int.reduceToNat, Nat.reduceLeDiff, Nat.reduceSub, Int.reduceEq, Nat.reduceBEq, List.replicate, List.set, if_false, if_true, ne_eq, false_implies, implies_true, evA, tyA]
  (repeat (with_reducible refine And.intro ?_ ?_; focus ((repeat' with_reducible apply And.intro) <;> (first | omega | with_reducible trivial | with_reducible assumption))))
  (repeat (first | refine awp_seq ?_ | refine awp_block ?_ | ((first | refine awp_skip ?_ | refine awp_exit ?_ | refine awp_reg ttok ?_ | (refine awp_draw ttok ?dr_calm ?_; (case dr_calm => decide +kernel)) | refine awp_condM ?_); simp (maxSteps := 4000000) only [↓reduceIte, Nat.reduceLT, Nat.reduceEqDiff, reduceCtorEq, Nat.reduceAdd, Nat.reduceMul, Int.reduceLE, Int.reduceLT, Int.reduceToNat, Nat.reduceLeDiff, Nat.reduceSub, Int.reduceEq, Nat.reduceBEq, List.replicate, List.set, if_false, if_true, ne_eq, false_implies, implies_true, evA, tyA, srs_take, hts', htq', srs_len, hsl', hql']; (repeat (with_reducible refine And.intro ?_ ?_; focus ((repeat' with_reducible apply And.intro) <;> (first | omega | with_reducible trivial | with_reducible assumption)))); (with_reducible first | refine awp_id ?_ | refine id_call ?_ | refine id_and ?_ | refine id_ex ?_ | refine id_all ?_ | refine id_le ?_))))
  refine callVC_mk fnok8 hPl rfl ?_
  simp (maxSteps := 4000000) only [↓reduceIte, Nat.reduceLT, Nat.reduceEqDiff, reduceCtorEq, Nat.reduceAdd, Nat.reduceMul, Int.reduceLE, Int.reduceLT, Int.reduceToNat, Nat.reduceLeDiff, Nat.reduceSub, Int.reduceEq, Nat.reduceBEq, List.replicate, List.set, if_false, if_true, ne_eq, false_implies, implies_true, evA, tyA, kt]
  (repeat (with_reducible refine And.intro ?_ ?_; focus ((repeat' with_reducible apply And.intro) <;> (first | omega | with_reducible trivial | with_reducible assumption))))
  have hcut := lowB_le 65535 p (by decide)
  obtain ⟨c, hc, hct⟩ : ∃ c : Nat, c < 1100 ∧ Int.tmod (lowB 65535 p : Int) 1100 = (c : Int) := ⟨lowB 65535 p % 1100, Nat.mod_lt _ (by decide), rfl⟩
  (repeat (first | refine awp_seq ?_ | refine awp_block ?_ | ((first | refine awp_skip ?_ | refine awp_exit ?_ | refine awp_reg ttok ?_ | (refine awp_draw ttok ?dr_calm ?_; (case dr_calm => decide +kernel)) | refine awp_condM ?_); simp (maxSteps := 4000000) only [↓reduceIte, Nat.reduceLT, Nat.reduceEqDiff, reduceCtorEq, Nat.reduceAdd, Nat.reduceMul, Int.reduceLE, Int.reduceLT, Int.reduceToNat, Nat.reduceLeDiff, Nat.reduceSub, Int.reduceEq, Nat.reduceBEq, List.replicate, List.set, if_false, if_true, ne_eq, false_implies, implies_true, evA, tyA, kt, low65535, hct]; (repeat (with_reducible refine And.intro ?_ ?_; focus ((repeat' with_reducible apply And.intro) <;> (first | omega | with_reducible trivial | with_reducible assumption)))); (with_reducible first | refine awp_id ?_ | refine id_call ?_ | refine id_and ?_ | refine id_ex ?_ | refine id_all ?_ | refine id_le ?_))))
  have hpl := planW_len 1 2 Pb
  have hpt : List.take 32 (planW 1 2 Pb) = planW 1 2 Pb := List.take_of_length_le (by omega)
  have hfd : DOk (headB 1) (mz (frameOf Pa)) (zer 32) (zer 992) := ⟨headB_len 1, mz_len (by omega), zer_len 32, zer_len 992⟩
  have hfl : (fmtD Pa).length = 2048 := hfd.len
  have hft : List.take 2048 (fmtD Pa) = fmtD Pa := List.take_of_length_le (by omega)
  have hDo := c_dDo false (planW 1 2 Pb) (fmtD Pa) (w0 : Int) (c : Int) (planW_ok (by omega) 2 (by omega)) (by omega) hfl (by omega) (by omega) (by omega)
  have hn1' := doD_n (planW 1 2 Pb) c (fmtD Pa)
  obtain ⟨h1, b1, e1, lh1, lb1, hAB⟩ := cut_area (Pa := Pa) (Pb := Pb) (by omega) (by omega) c
  have e0 : (doD (planW 1 2 Pb) c (fmtD Pa)).1 = decide (1024 ≤ c) := (doD_plan1 hfd (by omega) c).1
  rw [show ((c : Int)).toNat = c from Int.toNat_natCast c, e0, e1] at hDo
  generalize (doD (planW 1 2 Pb) c (fmtD Pa)).2.2 = w1 at *
  obtain ⟨wn, hwn⟩ : ∃ wn : Nat, (w0 : Int) + (w1 : Int) = (wn : Int) := ⟨w0 + w1, by simp⟩
  rw [hwn] at hDo
  refine callVC_M [103001, 103002] fnok9 hDo (by simp (maxSteps := 4000000) only [↓reduceIte, Nat.reduceLT, Nat.reduceEqDiff, reduceCtorEq, Nat.reduceAdd, Nat.reduceMul, Int.reduceLE, Int.reduceLT, Int.reduceToNat, Nat.reduceLeDiff, Nat.reduceSub, Int.reduceEq, Nat.reduceBEq, List.replicate, List.set, if_false, if_true, ne_eq, false_implies, implies_true, evA, wrs_take, hpt, wrs_len, hpl]; rfl) (by simp (maxSteps := 4000000) only [↓reduceIte, Nat.reduceLT, Nat.reduceEqDiff, reduceCtorEq, Nat.reduceAdd, Nat.reduceMul, Int.reduceLE, Int.reduceLT, Int.reduceToNat, Nat.reduceLeDiff, Nat.reduceSub, Int.reduceEq, Nat.reduceBEq, List.replicate, List.set, if_false, if_true, ne_eq, false_implies, implies_true, evA]) ?_
  simp (maxSteps := 4000000) only [↓reduceIte, Nat.reduceLT, Nat.reduceEqDiff, reduceCtorEq, Nat.reduceAdd, Nat.reduceMul, Int.reduceLE, Int.reduceLT, Int.reduceToNat, Nat.reduceLeDiff, Nat.reduceSub, Int.reduceEq, Nat.reduceBEq, List.replicate, List.set, if_false, if_true, ne_eq, false_implies, implies_true, evA, tyA]
  (repeat (with_reducible refine And.intro ?_ ?_; focus ((repeat' with_reducible apply And.intro) <;> (first | omega | with_reducible trivial | with_reducible assumption))))
  have hD0 : DOk (headB 1) (mz (frameOf Pa)) h1 b1 := ⟨headB_len 1, mz_len (by omega), lh1, lb1⟩
  have hfa : frs (Pa :: nbs []) = frameOf Pa := by simp [frs, nbs]
  have hfb : frs (Pb :: nbs []) = frameOf Pb := by simp [frs, nbs]
  have hfc : frs (Pc :: nbs []) = frameOf Pc := by simp [frs, nbs]
  have nn : ∀ x ∈ ([] : List (Int × Int × Int × Int)), nOk x := by simp
  have hA0 := area0Yes (G := 1) (P := Pa) (L := []) (B := mz (frs (Pa :: nbs []))) (h1 := h1) (b1 := b1) (by rw [hfa]; exact hD0) (wn : Int) (by decide) (by omega) (by omega) nn (by simp) (by rw [hfa]; omega) (mz_take _) (hall_mz false _ (xs_ok (by omega) (by omega) nn) (by simp [nbs]) (by rw [hfa]; omega)) hmi hPa
  rw [hfa] at hA0
  have t11 : (((1 : BitVec 32).toNat : Nat) : Int) = 1 := rfl
  have t22 : (((2 : BitVec 32).toNat : Nat) : Int) = 2 := rfl
  have t33 : (((3 : BitVec 32).toNat : Nat) : Int) = 3 := rfl
  have gd : ∀ g s : Int, goodN g s [] 0 = [] := fun _ _ => rfl
  rw [t11, gd] at hA0
  have hS8 : ∀ {S : List (Int × List Int)} {Q : List Int} {a b : Int}, mayB a b S Q = true → ∀ x ∈ S, x.2.length ≤ 1000000 := fun {S Q a b} hm x hx => by
    obtain ⟨_, _, _, _, hS⟩ := mayB_true hm
    obtain ⟨j, hj, rfl⟩ := List.getElem_of_mem hx
    have := (sOk_true (hS j hj)).2.2.2.2.1
    have el : S.getD j (0, []) = S[j] := by simp [List.getD, List.getElem?_eq_getElem hj]
    rw [el] at this; omega
  have hSa := c_rSame false false false false (A0 : Int) (B0 : Int) S Q (A0 : Int) (B0 : Int) S Q (by omega) (by omega) (hS8 hmi)
  have hSb := c_rSame false false false false (A1 : Int) (B1 : Int) S' Q' (A1 : Int) (B1 : Int) S' Q' (by omega) (by omega) (hS8 hmi')
  have sa : sameI (A0 : Int) (B0 : Int) S Q (A0 : Int) (B0 : Int) S Q = true := by simp [sameI]
  have sb : sameI (A1 : Int) (B1 : Int) S' Q' (A1 : Int) (B1 : Int) S' Q' = true := by simp [sameI]
  rw [sa] at hSa
  rw [sb] at hSb
  have hma : (mz (frameOf Pa)).length = 992 := mz_len (by omega)
  have hmat : List.take 992 (mz (frameOf Pa)) = mz (frameOf Pa) := List.take_of_length_le (by omega)
  have hAra := c_jArea (mz (frameOf Pa)) 0 ((frameOf Pa).length : Int)
  have hArb := c_jArea (mz (frameOf Pb)) 1 ((frameOf Pb).length : Int)
  have hmb : (mz (frameOf Pb)).length = 992 := mz_len (by omega)
  have hmbt : List.take 992 (mz (frameOf Pb)) = mz (frameOf Pb) := List.take_of_length_le (by omega)
  have hpl3 := planW_len 0 3 Pc
  have hpt3 : List.take 32 (planW 0 3 Pc) = planW 0 3 Pc := List.take_of_length_le (by omega)
  have hdl : (dsk (headB 1) (mz (frameOf Pa)) h1 b1).length = 2048 := hD0.len
  have hdt : List.take 2048 (dsk (headB 1) (mz (frameOf Pa)) h1 b1) = dsk (headB 1) (mz (frameOf Pa)) h1 b1 := List.take_of_length_le (by omega)
  have hDo3 := c_dDo false (planW 0 3 Pc) (dsk (headB 1) (mz (frameOf Pa)) h1 b1) (wn : Int) 100000 (planW_ok (by omega) 3 (by omega)) (by omega) hdl (by omega) (by omega) (by decide)
  have hp0 := doD_plan0 hD0 (G := 3) (P := Pc) (by omega) 100000
  have eh3 : (headB 3).take (100000 - 992) ++ (headB 1).drop (100000 - 992) = headB 3 := by
    have := headB_len 3
    have := headB_len 1
    rw [List.take_of_length_le (by omega), List.drop_of_length_le (by omega), List.append_nil]
  rw [if_neg (by decide), eh3] at hp0
  rw [show (100000 : Int).toNat = 100000 from rfl, hp0.1, hp0.2] at hDo3
  generalize (doD (planW 0 3 Pc) 100000 (dsk (headB 1) (mz (frameOf Pa)) h1 b1)).2.2 = w3 at *
  obtain ⟨wm, hwm⟩ : ∃ wm : Nat, (wn : Int) + (w3 : Int) = (wm : Int) := ⟨wn + w3, by simp⟩
  rw [hwm] at hDo3
  have hD3 : DOk (headB 3) (mz (frameOf Pc)) h1 b1 := ⟨headB_len 3, mz_len (by omega), lh1, lb1⟩
  have hA3 := area0Yes (G := 3) (P := Pc) (L := []) (B := mz (frs (Pc :: nbs []))) (h1 := h1) (b1 := b1) (by rw [hfc]; exact hD3) (wm : Int) (by decide) (by omega) (by omega) nn (by simp) (by rw [hfc]; omega) (mz_take _) (hall_mz false _ (xs_ok (by omega) (by omega) nn) (by simp [nbs]) (by rw [hfc]; omega)) hmi' hPc
  rw [hfc, t33, gd] at hA3
  have hdl3 : (dsk (headB 3) (mz (frameOf Pc)) h1 b1).length = 2048 := hD3.len
  have q10 : (((0 : Int)) == 0) = true := rfl
  rcases hAB with ⟨hg1, hc4⟩ | ⟨hg1, hv1, rfl, hc9⟩
  · have hF := c_FindSN _ (wn : Int) hdl _ _ _ _ S Q _ _ hA0 (area1No hD0 (wn : Int) hg1)
    have hF3 := c_FindSN _ (wm : Int) hdl3 _ _ _ _ S' Q' _ _ hA3 (area1No hD3 (wm : Int) hg1)
    have k1 : decide (1024 ≤ c) = false := by simp; omega
    (repeat (first | refine awp_seq ?_ | refine awp_block ?_ | ((first | refine awp_skip ?_ | refine awp_exit ?_ | refine awp_reg ttok ?_ | (refine awp_draw ttok ?dr_calm ?_; (case dr_calm => decide +kernel)) | refine awp_condM ?_); simp (maxSteps := 4000000) only [↓reduceIte, Nat.reduceLT, Nat.reduceEqDiff, reduceCtorEq, Nat.reduceAdd, Nat.reduceMul, Int.reduceLE, Int.reduceLT, Int.reduceToNat, Nat.reduceLeDiff, Nat.reduceSub, Int.reduceEq, Nat.reduceBEq, List.replicate, List.set, if_false, if_true, ne_eq, false_implies, implies_true, evA, tyA]; (repeat (with_reducible refine And.intro ?_ ?_; focus ((repeat' with_reducible apply And.intro) <;> (first | omega | with_reducible trivial | with_reducible assumption)))); (with_reducible first | refine awp_id ?_ | refine id_call ?_ | refine id_and ?_ | refine id_ex ?_ | refine id_all ?_ | refine id_le ?_))))
    refine callVC_M [103001, 103002] fnok10 hF (by simp (maxSteps := 4000000) only [↓reduceIte, Nat.reduceLT, Nat.reduceEqDiff, reduceCtorEq, Nat.reduceAdd, Nat.reduceMul, Int.reduceLE, Int.reduceLT, Int.reduceToNat, Nat.reduceLeDiff, Nat.reduceSub, Int.reduceEq, Nat.reduceBEq, List.replicate, List.set, if_false, if_true, ne_eq, false_implies, implies_true, evA]; rfl) (by simp (maxSteps := 4000000) only [↓reduceIte, Nat.reduceLT, Nat.reduceEqDiff, reduceCtorEq, Nat.reduceAdd, Nat.reduceMul, Int.reduceLE, Int.reduceLT, Int.reduceToNat, Nat.reduceLeDiff, Nat.reduceSub, Int.reduceEq, Nat.reduceBEq, List.replicate, List.set, if_false, if_true, ne_eq, false_implies, implies_true, evA]) ?_
    simp (maxSteps := 4000000) only [↓reduceIte, Nat.reduceLT, Nat.reduceEqDiff, reduceCtorEq, Nat.reduceAdd, Nat.reduceMul, Int.reduceLE, Int.reduceLT, Int.reduceToNat, Nat.reduceLeDiff, Nat.reduceSub, Int.reduceEq, Nat.reduceBEq, List.replicate, List.set, if_false, if_true, ne_eq, false_implies, implies_true, evA, tyA]
    (repeat (with_reducible refine And.intro ?_ ?_; focus ((repeat' with_reducible apply And.intro) <;> (first | omega | with_reducible trivial | with_reducible assumption))))
    (repeat (first | refine awp_seq ?_ | refine awp_block ?_ | ((first | refine awp_skip ?_ | refine awp_exit ?_ | refine awp_reg ttok ?_ | (refine awp_draw ttok ?dr_calm ?_; (case dr_calm => decide +kernel)) | refine awp_condM ?_); simp (maxSteps := 4000000) only [↓reduceIte, Nat.reduceLT, Nat.reduceEqDiff, reduceCtorEq, Nat.reduceAdd, Nat.reduceMul, Int.reduceLE, Int.reduceLT, Int.reduceToNat, Nat.reduceLeDiff, Nat.reduceSub, Int.reduceEq, Nat.reduceBEq, List.replicate, List.set, if_false, if_true, ne_eq, false_implies, implies_true, evA, tyA, kt, kf, show ((0 : Int) != 0) = false from rfl, show ((1 : Int) == 2) = false from rfl, show ((2 : Int) == 1) = false from rfl, show ((1 : Int) == 0) = false from rfl, k1, srs_take, hts, htq, hts', htq', srs_len, hsl, hql, hsl', hql']; (repeat (with_reducible refine And.intro ?_ ?_; focus ((repeat' with_reducible apply And.intro) <;> (first | omega | with_reducible trivial | with_reducible assumption)))); (with_reducible first | refine awp_id ?_ | refine id_call ?_ | refine id_and ?_ | refine id_ex ?_ | refine id_all ?_ | refine id_le ?_))))
    refine callVC_scal fnok11 hSa rfl ?_
    simp (maxSteps := 4000000) only [↓reduceIte, Nat.reduceLT, Nat.reduceEqDiff, reduceCtorEq, Nat.reduceAdd, Nat.reduceMul, Int.reduceLE, Int.reduceLT, Int.reduceToNat, Nat.reduceLeDiff, Nat.reduceSub, Int.reduceEq, Nat.reduceBEq, List.replicate, List.set, if_false, if_true, ne_eq, false_implies, implies_true, evA, tyA]
    (repeat (with_reducible refine And.intro ?_ ?_; focus ((repeat' with_reducible apply And.intro) <;> (first | omega | with_reducible trivial | with_reducible assumption))))
    (repeat (first | refine awp_seq ?_ | refine awp_block ?_ | ((first | refine awp_skip ?_ | refine awp_exit ?_ | refine awp_reg ttok ?_ | (refine awp_draw ttok ?dr_calm ?_; (case dr_calm => decide +kernel)) | refine awp_condM ?_); simp (maxSteps := 4000000) only [↓reduceIte, Nat.reduceLT, Nat.reduceEqDiff, reduceCtorEq, Nat.reduceAdd, Nat.reduceMul, Int.reduceLE, Int.reduceLT, Int.reduceToNat, Nat.reduceLeDiff, Nat.reduceSub, Int.reduceEq, Nat.reduceBEq, List.replicate, List.set, if_false, if_true, ne_eq, false_implies, implies_true, evA, tyA, kt, kf, show ((0 : Int) != 0) = false from rfl, show ((1 : Int) == 2) = false from rfl, show ((2 : Int) == 1) = false from rfl, show ((1 : Int) == 0) = false from rfl, k1, srs_take, hts, htq, hts', htq', srs_len, hsl, hql, hsl', hql']; (repeat (with_reducible refine And.intro ?_ ?_; focus ((repeat' with_reducible apply And.intro) <;> (first | omega | with_reducible trivial | with_reducible assumption)))); (with_reducible first | refine awp_id ?_ | refine id_call ?_ | refine id_and ?_ | refine id_ex ?_ | refine id_all ?_ | refine id_le ?_))))
    cases q : decide ((c : Int) ≤ 992)
    all_goals
      refine awp_drawG ttok ((0, none) :: (1, none) :: (2, none) :: (3, none) :: (4, none) :: (5, none) :: (6, none) :: (7, none) :: (8, none) :: (9, none) :: (10, none) :: (11, none) :: (12, none) :: (13, none) :: (14, none) :: (15, none) :: (16, none) :: (17, none) :: (18, none) :: (19, none) :: (20, none) :: (21, none) :: (22, none) :: (24, none) :: (25, none) :: (23, some [24, 25]) :: (26, none) :: (27, none) :: []) ([]) ([]) (by decide +kernel) fun O hO => ?_; simp only [OpsAre, Nat.reduceAdd, and_true, List.toList_toArray, List.append_eq, List.cons_append, List.nil_append] at hO; simp (maxSteps := 4000000) only [↓reduceIte, Nat.reduceLT, Nat.reduceEqDiff, reduceCtorEq, Nat.reduceAdd, Nat.reduceMul, Int.reduceLE, Int.reduceLT, Int.reduceToNat, Nat.reduceLeDiff, Nat.reduceSub, Int.reduceEq, Nat.reduceBEq, List.replicate, List.set, if_false, if_true, ne_eq, false_implies, implies_true, evA, tyA, hO, kt, kf, show ((0 : Int) != 0) = false from rfl, show ((1 : Int) == 2) = false from rfl, show ((2 : Int) == 1) = false from rfl, show ((1 : Int) == 0) = false from rfl, k1, srs_take, hts, htq, hts', htq', srs_len, hsl, hql, hsl', hql', q, hma, hmat]; (repeat (with_reducible refine And.intro ?_ ?_; focus ((repeat' with_reducible apply And.intro) <;> (first | omega | with_reducible trivial | with_reducible assumption))))
      refine callVC_scal fnok12 hAra rfl ?_
      simp (maxSteps := 4000000) only [↓reduceIte, Nat.reduceLT, Nat.reduceEqDiff, reduceCtorEq, Nat.reduceAdd, Nat.reduceMul, Int.reduceLE, Int.reduceLT, Int.reduceToNat, Nat.reduceLeDiff, Nat.reduceSub, Int.reduceEq, Nat.reduceBEq, List.replicate, List.set, if_false, if_true, ne_eq, false_implies, implies_true, evA, tyA, hO, q, hma, hmat, show ((0 : Int) != 0) = false from rfl]
      (repeat (with_reducible refine And.intro ?_ ?_; focus ((repeat' with_reducible apply And.intro) <;> (first | omega | with_reducible trivial | with_reducible assumption))))
      clear hO
      (repeat (first | refine awp_seq ?_ | refine awp_block ?_ | ((first | refine awp_skip ?_ | refine awp_exit ?_ | refine awp_reg ttok ?_ | (refine awp_draw ttok ?dr_calm ?_; (case dr_calm => decide +kernel)) | refine awp_condM ?_); simp (maxSteps := 4000000) only [↓reduceIte, Nat.reduceLT, Nat.reduceEqDiff, reduceCtorEq, Nat.reduceAdd, Nat.reduceMul, Int.reduceLE, Int.reduceLT, Int.reduceToNat, Nat.reduceLeDiff, Nat.reduceSub, Int.reduceEq, Nat.reduceBEq, List.replicate, List.set, if_false, if_true, ne_eq, false_implies, implies_true, evA, tyA, kt, kf, show ((0 : Int) != 0) = false from rfl, show ((1 : Int) == 2) = false from rfl, show ((2 : Int) == 1) = false from rfl, show ((1 : Int) == 0) = false from rfl, k1, srs_take, hts, htq, hts', htq', srs_len, hsl, hql, hsl', hql']; (repeat (with_reducible refine And.intro ?_ ?_; focus ((repeat' with_reducible apply And.intro) <;> (first | omega | with_reducible trivial | with_reducible assumption)))); (with_reducible first | refine awp_id ?_ | refine id_call ?_ | refine id_and ?_ | refine id_ex ?_ | refine id_all ?_ | refine id_le ?_))))
      refine callVC_mk fnok8 hPl3 rfl ?_
      simp (maxSteps := 4000000) only [↓reduceIte, Nat.reduceLT, Nat.reduceEqDiff, reduceCtorEq, Nat.reduceAdd, Nat.reduceMul, Int.reduceLE, Int.reduceLT, Int.reduceToNat, Nat.reduceLeDiff, Nat.reduceSub, Int.reduceEq, Nat.reduceBEq, List.replicate, List.set, if_false, if_true, ne_eq, false_implies, implies_true, evA, tyA]
      (repeat (with_reducible refine And.intro ?_ ?_; focus ((repeat' with_reducible apply And.intro) <;> (first | omega | with_reducible trivial | with_reducible assumption))))
      (repeat (first | refine awp_seq ?_ | refine awp_block ?_ | ((first | refine awp_skip ?_ | refine awp_exit ?_ | refine awp_reg ttok ?_ | (refine awp_draw ttok ?dr_calm ?_; (case dr_calm => decide +kernel)) | refine awp_condM ?_); simp (maxSteps := 4000000) only [↓reduceIte, Nat.reduceLT, Nat.reduceEqDiff, reduceCtorEq, Nat.reduceAdd, Nat.reduceMul, Int.reduceLE, Int.reduceLT, Int.reduceToNat, Nat.reduceLeDiff, Nat.reduceSub, Int.reduceEq, Nat.reduceBEq, List.replicate, List.set, if_false, if_true, ne_eq, false_implies, implies_true, evA, tyA]; (repeat (with_reducible refine And.intro ?_ ?_; focus ((repeat' with_reducible apply And.intro) <;> (first | omega | with_reducible trivial | with_reducible assumption)))); (with_reducible first | refine awp_id ?_ | refine id_call ?_ | refine id_and ?_ | refine id_ex ?_ | refine id_all ?_ | refine id_le ?_))))
      refine callVC_M [103001, 103002] fnok9 hDo3 (by simp (maxSteps := 4000000) only [↓reduceIte, Nat.reduceLT, Nat.reduceEqDiff, reduceCtorEq, Nat.reduceAdd, Nat.reduceMul, Int.reduceLE, Int.reduceLT, Int.reduceToNat, Nat.reduceLeDiff, Nat.reduceSub, Int.reduceEq, Nat.reduceBEq, List.replicate, List.set, if_false, if_true, ne_eq, false_implies, implies_true, evA, wrs_take, hpt3, wrs_len, hpl3]; rfl) (by simp (maxSteps := 4000000) only [↓reduceIte, Nat.reduceLT, Nat.reduceEqDiff, reduceCtorEq, Nat.reduceAdd, Nat.reduceMul, Int.reduceLE, Int.reduceLT, Int.reduceToNat, Nat.reduceLeDiff, Nat.reduceSub, Int.reduceEq, Nat.reduceBEq, List.replicate, List.set, if_false, if_true, ne_eq, false_implies, implies_true, evA]) ?_
      simp (maxSteps := 4000000) only [↓reduceIte, Nat.reduceLT, Nat.reduceEqDiff, reduceCtorEq, Nat.reduceAdd, Nat.reduceMul, Int.reduceLE, Int.reduceLT, Int.reduceToNat, Nat.reduceLeDiff, Nat.reduceSub, Int.reduceEq, Nat.reduceBEq, List.replicate, List.set, if_false, if_true, ne_eq, false_implies, implies_true, evA, tyA]
      (repeat (with_reducible refine And.intro ?_ ?_; focus ((repeat' with_reducible apply And.intro) <;> (first | omega | with_reducible trivial | with_reducible assumption))))
      (repeat (first | refine awp_seq ?_ | refine awp_block ?_ | ((first | refine awp_skip ?_ | refine awp_exit ?_ | refine awp_reg ttok ?_ | (refine awp_draw ttok ?dr_calm ?_; (case dr_calm => decide +kernel)) | refine awp_condM ?_); simp (maxSteps := 4000000) only [↓reduceIte, Nat.reduceLT, Nat.reduceEqDiff, reduceCtorEq, Nat.reduceAdd, Nat.reduceMul, Int.reduceLE, Int.reduceLT, Int.reduceToNat, Nat.reduceLeDiff, Nat.reduceSub, Int.reduceEq, Nat.reduceBEq, List.replicate, List.set, if_false, if_true, ne_eq, false_implies, implies_true, evA, tyA]; (repeat (with_reducible refine And.intro ?_ ?_; focus ((repeat' with_reducible apply And.intro) <;> (first | omega | with_reducible trivial | with_reducible assumption)))); (with_reducible first | refine awp_id ?_ | refine id_call ?_ | refine id_and ?_ | refine id_ex ?_ | refine id_all ?_ | refine id_le ?_))))
      refine callVC_M [103001, 103002] fnok10 hF3 (by simp (maxSteps := 4000000) only [↓reduceIte, Nat.reduceLT, Nat.reduceEqDiff, reduceCtorEq, Nat.reduceAdd, Nat.reduceMul, Int.reduceLE, Int.reduceLT, Int.reduceToNat, Nat.reduceLeDiff, Nat.reduceSub, Int.reduceEq, Nat.reduceBEq, List.replicate, List.set, if_false, if_true, ne_eq, false_implies, implies_true, evA]; rfl) (by simp (maxSteps := 4000000) only [↓reduceIte, Nat.reduceLT, Nat.reduceEqDiff, reduceCtorEq, Nat.reduceAdd, Nat.reduceMul, Int.reduceLE, Int.reduceLT, Int.reduceToNat, Nat.reduceLeDiff, Nat.reduceSub, Int.reduceEq, Nat.reduceBEq, List.replicate, List.set, if_false, if_true, ne_eq, false_implies, implies_true, evA]) ?_
      simp (maxSteps := 4000000) only [↓reduceIte, Nat.reduceLT, Nat.reduceEqDiff, reduceCtorEq, Nat.reduceAdd, Nat.reduceMul, Int.reduceLE, Int.reduceLT, Int.reduceToNat, Nat.reduceLeDiff, Nat.reduceSub, Int.reduceEq, Nat.reduceBEq, List.replicate, List.set, if_false, if_true, ne_eq, false_implies, implies_true, evA, tyA]
      (repeat (with_reducible refine And.intro ?_ ?_; focus ((repeat' with_reducible apply And.intro) <;> (first | omega | with_reducible trivial | with_reducible assumption))))
      (repeat (first | refine awp_seq ?_ | refine awp_block ?_ | ((first | refine awp_skip ?_ | refine awp_exit ?_ | refine awp_reg ttok ?_ | (refine awp_draw ttok ?dr_calm ?_; (case dr_calm => decide +kernel)) | refine awp_condM ?_); simp (maxSteps := 4000000) only [↓reduceIte, Nat.reduceLT, Nat.reduceEqDiff, reduceCtorEq, Nat.reduceAdd, Nat.reduceMul, Int.reduceLE, Int.reduceLT, Int.reduceToNat, Nat.reduceLeDiff, Nat.reduceSub, Int.reduceEq, Nat.reduceBEq, List.replicate, List.set, if_false, if_true, ne_eq, false_implies, implies_true, evA, tyA]; (repeat (with_reducible refine And.intro ?_ ?_; focus ((repeat' with_reducible apply And.intro) <;> (first | omega | with_reducible trivial | with_reducible assumption)))); (with_reducible first | refine awp_id ?_ | refine id_call ?_ | refine id_and ?_ | refine id_ex ?_ | refine id_all ?_ | refine id_le ?_))))
      refine callVC_scal fnok13 c_awake38 rfl ?_
      simp (maxSteps := 4000000) only [↓reduceIte, Nat.reduceLT, Nat.reduceEqDiff, reduceCtorEq, Nat.reduceAdd, Nat.reduceMul, Int.reduceLE, Int.reduceLT, Int.reduceToNat, Nat.reduceLeDiff, Nat.reduceSub, Int.reduceEq, Nat.reduceBEq, List.replicate, List.set, if_false, if_true, ne_eq, false_implies, implies_true, evA, tyA, kt, kf, show ((0 : Int) != 0) = false from rfl, show ((1 : Int) == 2) = false from rfl, show ((2 : Int) == 1) = false from rfl, show ((1 : Int) == 0) = false from rfl, k1, srs_take, hts, htq, hts', htq', srs_len, hsl, hql, hsl', hql']
      (repeat (with_reducible refine And.intro ?_ ?_; focus ((repeat' with_reducible apply And.intro) <;> (first | omega | with_reducible trivial | with_reducible assumption))))
      refine callVC_scal fnok11 hSb rfl ?_
      simp (maxSteps := 4000000) only [↓reduceIte, Nat.reduceLT, Nat.reduceEqDiff, reduceCtorEq, Nat.reduceAdd, Nat.reduceMul, Int.reduceLE, Int.reduceLT, Int.reduceToNat, Nat.reduceLeDiff, Nat.reduceSub, Int.reduceEq, Nat.reduceBEq, List.replicate, List.set, if_false, if_true, ne_eq, false_implies, implies_true, evA, tyA]
      (repeat (with_reducible refine And.intro ?_ ?_; focus ((repeat' with_reducible apply And.intro) <;> (first | omega | with_reducible trivial | with_reducible assumption))))
      (repeat (first | refine awp_seq ?_ | refine awp_block ?_ | ((first | refine awp_skip ?_ | refine awp_exit ?_ | refine awp_reg ttok ?_ | (refine awp_draw ttok ?dr_calm ?_; (case dr_calm => decide +kernel)) | refine awp_condM ?_); simp (maxSteps := 4000000) only [↓reduceIte, Nat.reduceLT, Nat.reduceEqDiff, reduceCtorEq, Nat.reduceAdd, Nat.reduceMul, Int.reduceLE, Int.reduceLT, Int.reduceToNat, Nat.reduceLeDiff, Nat.reduceSub, Int.reduceEq, Nat.reduceBEq, List.replicate, List.set, if_false, if_true, ne_eq, false_implies, implies_true, evA, tyA]; (repeat (with_reducible refine And.intro ?_ ?_; focus ((repeat' with_reducible apply And.intro) <;> (first | omega | with_reducible trivial | with_reducible assumption)))); (with_reducible first | refine awp_id ?_ | refine id_call ?_ | refine id_and ?_ | refine id_ex ?_ | refine id_all ?_ | refine id_le ?_))))
      exact awp_ret (ends_plain (.inr rfl) rfl (by simp (maxSteps := 4000000) only [↓reduceIte, Nat.reduceLT, Nat.reduceEqDiff, reduceCtorEq, Nat.reduceAdd, Nat.reduceMul, Int.reduceLE, Int.reduceLT, Int.reduceToNat, Nat.reduceLeDiff, Nat.reduceSub, Int.reduceEq, Nat.reduceBEq, List.replicate, List.set, if_false, if_true, ne_eq, false_implies, implies_true, evA]))
  · have hA1 := area1Yes (G := 2) (P := Pb) (L := []) (B := mz (frs (Pb :: nbs []))) (H := h1) (h0 := headB 1) (b0 := mz (frameOf Pa)) ⟨headB_len 1, mz_len (by omega), headB_len 2, by rw [hfb]; exact hmb⟩ (wn : Int) (by decide) (by omega) (by omega) nn (by simp) (by rw [hfb]; omega) (mz_take _) (hall_mz false _ (xs_ok (by omega) (by omega) nn) (by simp [nbs]) (by rw [hfb]; omega)) hmi' hPb (.inr ⟨hg1, hv1, lh1⟩)
    have hA13 := area1Yes (G := 2) (P := Pb) (L := []) (B := mz (frs (Pb :: nbs []))) (H := h1) (h0 := headB 3) (b0 := mz (frameOf Pc)) ⟨headB_len 3, mz_len (by omega), headB_len 2, by rw [hfb]; exact hmb⟩ (wm : Int) (by decide) (by omega) (by omega) nn (by simp) (by rw [hfb]; omega) (mz_take _) (hall_mz false _ (xs_ok (by omega) (by omega) nn) (by simp [nbs]) (by rw [hfb]; omega)) hmi' hPb (.inr ⟨hg1, hv1, lh1⟩)
    rw [hfb, t22, gd] at hA1 hA13
    have hF := c_FindSS1 _ (wn : Int) hdl _ _ _ _ S Q _ _ _ _ _ _ S' Q' _ _ hA0 hA1 (by decide)
    have hF3 := c_FindSS0 _ (wm : Int) hdl3 _ _ _ _ S' Q' _ _ _ _ _ _ S' Q' _ _ hA3 hA13 (by decide)
    have q : decide ((c : Int) ≤ 992) = false := by simp; omega
    have k1 : ((0 : Int) == 0) = true := rfl
    (repeat (first | refine awp_seq ?_ | refine awp_block ?_ | ((first | refine awp_skip ?_ | refine awp_exit ?_ | refine awp_reg ttok ?_ | (refine awp_draw ttok ?dr_calm ?_; (case dr_calm => decide +kernel)) | refine awp_condM ?_); simp (maxSteps := 4000000) only [↓reduceIte, Nat.reduceLT, Nat.reduceEqDiff, reduceCtorEq, Nat.reduceAdd, Nat.reduceMul, Int.reduceLE, Int.reduceLT, Int.reduceToNat, Nat.reduceLeDiff, Nat.reduceSub, Int.reduceEq, Nat.reduceBEq, List.replicate, List.set, if_false, if_true, ne_eq, false_implies, implies_true, evA, tyA]; (repeat (with_reducible refine And.intro ?_ ?_; focus ((repeat' with_reducible apply And.intro) <;> (first | omega | with_reducible trivial | with_reducible assumption)))); (with_reducible first | refine awp_id ?_ | refine id_call ?_ | refine id_and ?_ | refine id_ex ?_ | refine id_all ?_ | refine id_le ?_))))
    refine callVC_M [103001, 103002] fnok10 hF (by simp (maxSteps := 4000000) only [↓reduceIte, Nat.reduceLT, Nat.reduceEqDiff, reduceCtorEq, Nat.reduceAdd, Nat.reduceMul, Int.reduceLE, Int.reduceLT, Int.reduceToNat, Nat.reduceLeDiff, Nat.reduceSub, Int.reduceEq, Nat.reduceBEq, List.replicate, List.set, if_false, if_true, ne_eq, false_implies, implies_true, evA]; rfl) (by simp (maxSteps := 4000000) only [↓reduceIte, Nat.reduceLT, Nat.reduceEqDiff, reduceCtorEq, Nat.reduceAdd, Nat.reduceMul, Int.reduceLE, Int.reduceLT, Int.reduceToNat, Nat.reduceLeDiff, Nat.reduceSub, Int.reduceEq, Nat.reduceBEq, List.replicate, List.set, if_false, if_true, ne_eq, false_implies, implies_true, evA]) ?_
    simp (maxSteps := 4000000) only [↓reduceIte, Nat.reduceLT, Nat.reduceEqDiff, reduceCtorEq, Nat.reduceAdd, Nat.reduceMul, Int.reduceLE, Int.reduceLT, Int.reduceToNat, Nat.reduceLeDiff, Nat.reduceSub, Int.reduceEq, Nat.reduceBEq, List.replicate, List.set, if_false, if_true, ne_eq, false_implies, implies_true, evA, tyA]
    (repeat (with_reducible refine And.intro ?_ ?_; focus ((repeat' with_reducible apply And.intro) <;> (first | omega | with_reducible trivial | with_reducible assumption))))
    (repeat (first | refine awp_seq ?_ | refine awp_block ?_ | ((first | refine awp_skip ?_ | refine awp_exit ?_ | refine awp_reg ttok ?_ | (refine awp_draw ttok ?dr_calm ?_; (case dr_calm => decide +kernel)) | refine awp_condM ?_); simp (maxSteps := 4000000) only [↓reduceIte, Nat.reduceLT, Nat.reduceEqDiff, reduceCtorEq, Nat.reduceAdd, Nat.reduceMul, Int.reduceLE, Int.reduceLT, Int.reduceToNat, Nat.reduceLeDiff, Nat.reduceSub, Int.reduceEq, Nat.reduceBEq, List.replicate, List.set, if_false, if_true, ne_eq, false_implies, implies_true, evA, tyA, kt, kf, show ((0 : Int) != 0) = false from rfl, show ((1 : Int) == 2) = false from rfl, show ((2 : Int) == 1) = false from rfl, show ((1 : Int) == 0) = false from rfl, k1, srs_take, hts, htq, hts', htq', srs_len, hsl, hql, hsl', hql']; (repeat (with_reducible refine And.intro ?_ ?_; focus ((repeat' with_reducible apply And.intro) <;> (first | omega | with_reducible trivial | with_reducible assumption)))); (with_reducible first | refine awp_id ?_ | refine id_call ?_ | refine id_and ?_ | refine id_ex ?_ | refine id_all ?_ | refine id_le ?_))))
    refine callVC_scal fnok11 hSb rfl ?_
    simp (maxSteps := 4000000) only [↓reduceIte, Nat.reduceLT, Nat.reduceEqDiff, reduceCtorEq, Nat.reduceAdd, Nat.reduceMul, Int.reduceLE, Int.reduceLT, Int.reduceToNat, Nat.reduceLeDiff, Nat.reduceSub, Int.reduceEq, Nat.reduceBEq, List.replicate, List.set, if_false, if_true, ne_eq, false_implies, implies_true, evA, tyA]
    (repeat (with_reducible refine And.intro ?_ ?_; focus ((repeat' with_reducible apply And.intro) <;> (first | omega | with_reducible trivial | with_reducible assumption))))
    (repeat (first | refine awp_seq ?_ | refine awp_block ?_ | ((first | refine awp_skip ?_ | refine awp_exit ?_ | refine awp_reg ttok ?_ | (refine awp_draw ttok ?dr_calm ?_; (case dr_calm => decide +kernel)) | refine awp_condM ?_); simp (maxSteps := 4000000) only [↓reduceIte, Nat.reduceLT, Nat.reduceEqDiff, reduceCtorEq, Nat.reduceAdd, Nat.reduceMul, Int.reduceLE, Int.reduceLT, Int.reduceToNat, Nat.reduceLeDiff, Nat.reduceSub, Int.reduceEq, Nat.reduceBEq, List.replicate, List.set, if_false, if_true, ne_eq, false_implies, implies_true, evA, tyA, kt, kf, show ((0 : Int) != 0) = false from rfl, show ((1 : Int) == 2) = false from rfl, show ((2 : Int) == 1) = false from rfl, show ((1 : Int) == 0) = false from rfl, k1, srs_take, hts, htq, hts', htq', srs_len, hsl, hql, hsl', hql']; (repeat (with_reducible refine And.intro ?_ ?_; focus ((repeat' with_reducible apply And.intro) <;> (first | omega | with_reducible trivial | with_reducible assumption)))); (with_reducible first | refine awp_id ?_ | refine id_call ?_ | refine id_and ?_ | refine id_ex ?_ | refine id_all ?_ | refine id_le ?_))))
    cases q2 : decide (1024 ≤ c)
    all_goals
      refine awp_drawG ttok ((0, none) :: (1, none) :: (2, none) :: (3, none) :: (4, none) :: (5, none) :: (6, none) :: (7, none) :: (8, none) :: (9, none) :: (10, none) :: (11, none) :: (12, none) :: (13, none) :: (14, none) :: (15, none) :: (16, none) :: (17, none) :: (18, none) :: (19, none) :: (20, none) :: (21, none) :: (22, none) :: (24, none) :: (25, none) :: (23, some [24, 25]) :: (26, none) :: (27, none) :: []) ([]) ([]) (by decide +kernel) fun O hO => ?_; simp only [OpsAre, Nat.reduceAdd, and_true, List.toList_toArray, List.append_eq, List.cons_append, List.nil_append] at hO; simp (maxSteps := 4000000) only [↓reduceIte, Nat.reduceLT, Nat.reduceEqDiff, reduceCtorEq, Nat.reduceAdd, Nat.reduceMul, Int.reduceLE, Int.reduceLT, Int.reduceToNat, Nat.reduceLeDiff, Nat.reduceSub, Int.reduceEq, Nat.reduceBEq, List.replicate, List.set, if_false, if_true, ne_eq, false_implies, implies_true, evA, tyA, hO, kt, kf, show ((0 : Int) != 0) = false from rfl, show ((1 : Int) == 2) = false from rfl, show ((2 : Int) == 1) = false from rfl, show ((1 : Int) == 0) = false from rfl, k1, srs_take, hts, htq, hts', htq', srs_len, hsl, hql, hsl', hql', q, q2, hmb, hmbt]; (repeat (with_reducible refine And.intro ?_ ?_; focus ((repeat' with_reducible apply And.intro) <;> (first | omega | with_reducible trivial | with_reducible assumption))))
      refine callVC_scal fnok12 hArb rfl ?_
      simp (maxSteps := 4000000) only [↓reduceIte, Nat.reduceLT, Nat.reduceEqDiff, reduceCtorEq, Nat.reduceAdd, Nat.reduceMul, Int.reduceLE, Int.reduceLT, Int.reduceToNat, Nat.reduceLeDiff, Nat.reduceSub, Int.reduceEq, Nat.reduceBEq, List.replicate, List.set, if_false, if_true, ne_eq, false_implies, implies_true, evA, tyA, hO, q, hmb, hmbt, show ((1 : Int) != 1) = false from rfl]
      (repeat (with_reducible refine And.intro ?_ ?_; focus ((repeat' with_reducible apply And.intro) <;> (first | omega | with_reducible trivial | with_reducible assumption))))
      clear hO
      (repeat (first | refine awp_seq ?_ | refine awp_block ?_ | ((first | refine awp_skip ?_ | refine awp_exit ?_ | refine awp_reg ttok ?_ | (refine awp_draw ttok ?dr_calm ?_; (case dr_calm => decide +kernel)) | refine awp_condM ?_); simp (maxSteps := 4000000) only [↓reduceIte, Nat.reduceLT, Nat.reduceEqDiff, reduceCtorEq, Nat.reduceAdd, Nat.reduceMul, Int.reduceLE, Int.reduceLT, Int.reduceToNat, Nat.reduceLeDiff, Nat.reduceSub, Int.reduceEq, Nat.reduceBEq, List.replicate, List.set, if_false, if_true, ne_eq, false_implies, implies_true, evA, tyA, kt, kf, show ((0 : Int) != 0) = false from rfl, show ((1 : Int) == 2) = false from rfl, show ((2 : Int) == 1) = false from rfl, show ((1 : Int) == 0) = false from rfl, k1, srs_take, hts, htq, hts', htq', srs_len, hsl, hql, hsl', hql']; (repeat (with_reducible refine And.intro ?_ ?_; focus ((repeat' with_reducible apply And.intro) <;> (first | omega | with_reducible trivial | with_reducible assumption)))); (with_reducible first | refine awp_id ?_ | refine id_call ?_ | refine id_and ?_ | refine id_ex ?_ | refine id_all ?_ | refine id_le ?_))))
      refine callVC_mk fnok8 hPl3 rfl ?_
      simp (maxSteps := 4000000) only [↓reduceIte, Nat.reduceLT, Nat.reduceEqDiff, reduceCtorEq, Nat.reduceAdd, Nat.reduceMul, Int.reduceLE, Int.reduceLT, Int.reduceToNat, Nat.reduceLeDiff, Nat.reduceSub, Int.reduceEq, Nat.reduceBEq, List.replicate, List.set, if_false, if_true, ne_eq, false_implies, implies_true, evA, tyA]
      (repeat (with_reducible refine And.intro ?_ ?_; focus ((repeat' with_reducible apply And.intro) <;> (first | omega | with_reducible trivial | with_reducible assumption))))
      (repeat (first | refine awp_seq ?_ | refine awp_block ?_ | ((first | refine awp_skip ?_ | refine awp_exit ?_ | refine awp_reg ttok ?_ | (refine awp_draw ttok ?dr_calm ?_; (case dr_calm => decide +kernel)) | refine awp_condM ?_); simp (maxSteps := 4000000) only [↓reduceIte, Nat.reduceLT, Nat.reduceEqDiff, reduceCtorEq, Nat.reduceAdd, Nat.reduceMul, Int.reduceLE, Int.reduceLT, Int.reduceToNat, Nat.reduceLeDiff, Nat.reduceSub, Int.reduceEq, Nat.reduceBEq, List.replicate, List.set, if_false, if_true, ne_eq, false_implies, implies_true, evA, tyA]; (repeat (with_reducible refine And.intro ?_ ?_; focus ((repeat' with_reducible apply And.intro) <;> (first | omega | with_reducible trivial | with_reducible assumption)))); (with_reducible first | refine awp_id ?_ | refine id_call ?_ | refine id_and ?_ | refine id_ex ?_ | refine id_all ?_ | refine id_le ?_))))
      refine callVC_M [103001, 103002] fnok9 hDo3 (by simp (maxSteps := 4000000) only [↓reduceIte, Nat.reduceLT, Nat.reduceEqDiff, reduceCtorEq, Nat.reduceAdd, Nat.reduceMul, Int.reduceLE, Int.reduceLT, Int.reduceToNat, Nat.reduceLeDiff, Nat.reduceSub, Int.reduceEq, Nat.reduceBEq, List.replicate, List.set, if_false, if_true, ne_eq, false_implies, implies_true, evA, wrs_take, hpt3, wrs_len, hpl3]; rfl) (by simp (maxSteps := 4000000) only [↓reduceIte, Nat.reduceLT, Nat.reduceEqDiff, reduceCtorEq, Nat.reduceAdd, Nat.reduceMul, Int.reduceLE, Int.reduceLT, Int.reduceToNat, Nat.reduceLeDiff, Nat.reduceSub, Int.reduceEq, Nat.reduceBEq, List.replicate, List.set, if_false, if_true, ne_eq, false_implies, implies_true, evA]) ?_
      simp (maxSteps := 4000000) only [↓reduceIte, Nat.reduceLT, Nat.reduceEqDiff, reduceCtorEq, Nat.reduceAdd, Nat.reduceMul, Int.reduceLE, Int.reduceLT, Int.reduceToNat, Nat.reduceLeDiff, Nat.reduceSub, Int.reduceEq, Nat.reduceBEq, List.replicate, List.set, if_false, if_true, ne_eq, false_implies, implies_true, evA, tyA]
      (repeat (with_reducible refine And.intro ?_ ?_; focus ((repeat' with_reducible apply And.intro) <;> (first | omega | with_reducible trivial | with_reducible assumption))))
      (repeat (first | refine awp_seq ?_ | refine awp_block ?_ | ((first | refine awp_skip ?_ | refine awp_exit ?_ | refine awp_reg ttok ?_ | (refine awp_draw ttok ?dr_calm ?_; (case dr_calm => decide +kernel)) | refine awp_condM ?_); simp (maxSteps := 4000000) only [↓reduceIte, Nat.reduceLT, Nat.reduceEqDiff, reduceCtorEq, Nat.reduceAdd, Nat.reduceMul, Int.reduceLE, Int.reduceLT, Int.reduceToNat, Nat.reduceLeDiff, Nat.reduceSub, Int.reduceEq, Nat.reduceBEq, List.replicate, List.set, if_false, if_true, ne_eq, false_implies, implies_true, evA, tyA]; (repeat (with_reducible refine And.intro ?_ ?_; focus ((repeat' with_reducible apply And.intro) <;> (first | omega | with_reducible trivial | with_reducible assumption)))); (with_reducible first | refine awp_id ?_ | refine id_call ?_ | refine id_and ?_ | refine id_ex ?_ | refine id_all ?_ | refine id_le ?_))))
      refine callVC_M [103001, 103002] fnok10 hF3 (by simp (maxSteps := 4000000) only [↓reduceIte, Nat.reduceLT, Nat.reduceEqDiff, reduceCtorEq, Nat.reduceAdd, Nat.reduceMul, Int.reduceLE, Int.reduceLT, Int.reduceToNat, Nat.reduceLeDiff, Nat.reduceSub, Int.reduceEq, Nat.reduceBEq, List.replicate, List.set, if_false, if_true, ne_eq, false_implies, implies_true, evA]; rfl) (by simp (maxSteps := 4000000) only [↓reduceIte, Nat.reduceLT, Nat.reduceEqDiff, reduceCtorEq, Nat.reduceAdd, Nat.reduceMul, Int.reduceLE, Int.reduceLT, Int.reduceToNat, Nat.reduceLeDiff, Nat.reduceSub, Int.reduceEq, Nat.reduceBEq, List.replicate, List.set, if_false, if_true, ne_eq, false_implies, implies_true, evA]) ?_
      simp (maxSteps := 4000000) only [↓reduceIte, Nat.reduceLT, Nat.reduceEqDiff, reduceCtorEq, Nat.reduceAdd, Nat.reduceMul, Int.reduceLE, Int.reduceLT, Int.reduceToNat, Nat.reduceLeDiff, Nat.reduceSub, Int.reduceEq, Nat.reduceBEq, List.replicate, List.set, if_false, if_true, ne_eq, false_implies, implies_true, evA, tyA]
      (repeat (with_reducible refine And.intro ?_ ?_; focus ((repeat' with_reducible apply And.intro) <;> (first | omega | with_reducible trivial | with_reducible assumption))))
      (repeat (first | refine awp_seq ?_ | refine awp_block ?_ | ((first | refine awp_skip ?_ | refine awp_exit ?_ | refine awp_reg ttok ?_ | (refine awp_draw ttok ?dr_calm ?_; (case dr_calm => decide +kernel)) | refine awp_condM ?_); simp (maxSteps := 4000000) only [↓reduceIte, Nat.reduceLT, Nat.reduceEqDiff, reduceCtorEq, Nat.reduceAdd, Nat.reduceMul, Int.reduceLE, Int.reduceLT, Int.reduceToNat, Nat.reduceLeDiff, Nat.reduceSub, Int.reduceEq, Nat.reduceBEq, List.replicate, List.set, if_false, if_true, ne_eq, false_implies, implies_true, evA, tyA]; (repeat (with_reducible refine And.intro ?_ ?_; focus ((repeat' with_reducible apply And.intro) <;> (first | omega | with_reducible trivial | with_reducible assumption)))); (with_reducible first | refine awp_id ?_ | refine id_call ?_ | refine id_and ?_ | refine id_ex ?_ | refine id_all ?_ | refine id_le ?_))))
      refine callVC_scal fnok13 c_awake38 rfl ?_
      simp (maxSteps := 4000000) only [↓reduceIte, Nat.reduceLT, Nat.reduceEqDiff, reduceCtorEq, Nat.reduceAdd, Nat.reduceMul, Int.reduceLE, Int.reduceLT, Int.reduceToNat, Nat.reduceLeDiff, Nat.reduceSub, Int.reduceEq, Nat.reduceBEq, List.replicate, List.set, if_false, if_true, ne_eq, false_implies, implies_true, evA, tyA, kt, kf, show ((0 : Int) != 0) = false from rfl, show ((1 : Int) == 2) = false from rfl, show ((2 : Int) == 1) = false from rfl, show ((1 : Int) == 0) = false from rfl, k1, srs_take, hts, htq, hts', htq', srs_len, hsl, hql, hsl', hql']
      (repeat (with_reducible refine And.intro ?_ ?_; focus ((repeat' with_reducible apply And.intro) <;> (first | omega | with_reducible trivial | with_reducible assumption))))
      refine callVC_scal fnok11 hSb rfl ?_
      simp (maxSteps := 4000000) only [↓reduceIte, Nat.reduceLT, Nat.reduceEqDiff, reduceCtorEq, Nat.reduceAdd, Nat.reduceMul, Int.reduceLE, Int.reduceLT, Int.reduceToNat, Nat.reduceLeDiff, Nat.reduceSub, Int.reduceEq, Nat.reduceBEq, List.replicate, List.set, if_false, if_true, ne_eq, false_implies, implies_true, evA, tyA]
      (repeat (with_reducible refine And.intro ?_ ?_; focus ((repeat' with_reducible apply And.intro) <;> (first | omega | with_reducible trivial | with_reducible assumption))))
      (repeat (first | refine awp_seq ?_ | refine awp_block ?_ | ((first | refine awp_skip ?_ | refine awp_exit ?_ | refine awp_reg ttok ?_ | (refine awp_draw ttok ?dr_calm ?_; (case dr_calm => decide +kernel)) | refine awp_condM ?_); simp (maxSteps := 4000000) only [↓reduceIte, Nat.reduceLT, Nat.reduceEqDiff, reduceCtorEq, Nat.reduceAdd, Nat.reduceMul, Int.reduceLE, Int.reduceLT, Int.reduceToNat, Nat.reduceLeDiff, Nat.reduceSub, Int.reduceEq, Nat.reduceBEq, List.replicate, List.set, if_false, if_true, ne_eq, false_implies, implies_true, evA, tyA]; (repeat (with_reducible refine And.intro ?_ ?_; focus ((repeat' with_reducible apply And.intro) <;> (first | omega | with_reducible trivial | with_reducible assumption)))); (with_reducible first | refine awp_id ?_ | refine id_call ?_ | refine id_and ?_ | refine id_ex ?_ | refine id_all ?_ | refine id_le ?_))))
      exact awp_ret (ends_plain (.inr rfl) rfl (by simp (maxSteps := 4000000) only [↓reduceIte, Nat.reduceLT, Nat.reduceEqDiff, reduceCtorEq, Nat.reduceAdd, Nat.reduceMul, Int.reduceLE, Int.reduceLT, Int.reduceToNat, Nat.reduceLeDiff, Nat.reduceSub, Int.reduceEq, Nat.reduceBEq, List.replicate, List.set, if_false, if_true, ne_eq, false_implies, implies_true, evA]))

end Go.Proofs.Ytmfonlkigjpjcaa
