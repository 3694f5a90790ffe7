/-
  The contract of the law MendFinds.
-/
import Derived.Test.YtmfonlkigjpjcaaMdFo
import Derived.Test.YtmfonlkigjpjcaaSn7
namespace Go.Proofs.Ytmfonlkigjpjcaa
open Go.Ab
set_option linter.unusedSimpArgs false
set_option linter.unusedVariables false

theorem goodN_snoc (gen sq : Int) (x : Int × Int × Int × Int) : ∀ (L : List (Int × Int × Int × Int)) (n : Nat), goodN gen sq (L ++ [x]) n = if (goodN gen sq L n).length = L.length ∧ x.1 = gen ∧ x.2.1 - sq = ((n + L.length : Nat) : Int) then goodN gen sq L n ++ [x.2] else goodN gen sq L n
  | [], n => by
    simp only [List.nil_append, goodN, List.length_nil, true_and, Nat.add_zero]
  | y :: L, n => by
    have ih := goodN_snoc gen sq x L (n + 1)
    have e : n + 1 + L.length = n + (y :: L).length := by simp; omega
    rw [List.cons_append, goodN, goodN, ih, e]
    by_cases h : y.1 = gen ∧ y.2.1 - sq = (n : Int)
    · rw [if_pos h, if_pos h]
      simp only [List.length_cons, Nat.add_right_cancel_iff]
      split <;> rfl
    · rw [if_neg h, if_neg h]
      simp
theorem goodN_le (gen sq : Int) : ∀ (L : List (Int × Int × Int × Int)) (n : Nat), (goodN gen sq L n).length ≤ L.length
  | [], n => by simp [goodN]
  | y :: L, n => by
    rw [goodN]
    split
    · have := goodN_le gen sq L (n + 1); simp only [List.length_cons]; omega
    · simp
theorem nbs_snoc (L : List (Int × Int × Int × Int)) (x : Int × Int × Int × Int) : nbs (L ++ [x]) = nbs L ++ [putN [x.1, x.2.1, x.2.2.1, x.2.2.2] 4] := by simp [nbs]
theorem low15 (c : Int) : IntKind.i64.wrap ((BitVec.ofInt IntKind.i64.bits c &&& BitVec.ofInt IntKind.i64.bits 15).toNat : Int) = (lowB 15 c : Int) := lowB_wrap 15 c (by decide)
theorem low3 (c : Int) : IntKind.i64.wrap ((BitVec.ofInt IntKind.i64.bits c &&& BitVec.ofInt IntKind.i64.bits 3).toNat : Int) = (lowB 3 c : Int) := lowB_wrap 3 c (by decide)

/-- A note is written behind what is there. -/
theorem note_done {P : List UInt8} {L : List (Int × Int × Int × Int)} {x : Int × Int × Int × Int} (hP4 : P.length ≤ 400) (hL : ∀ y ∈ L, nOk y) (hx : nOk x) (hn : L.length ≤ 12) {fr cnt : Nat} (hfr : fr = (frs (P :: nbs L)).length / 32)
    (hcnt : cnt = ((frs (P :: nbs L)).length + ((putN [x.1, x.2.1, x.2.2.1, x.2.2.2] 4).length + 7) + 31) / 32 - fr) (left : Nat) :
    frs (P :: nbs L) ++ frameOf (putN [x.1, x.2.1, x.2.2.1, x.2.2.2] 4) = frs (P :: nbs (L ++ [x])) ∧ fr + cnt ≤ 31 ∧
    (doD (blks 0 (mz (frs (P :: nbs (L ++ [x])))) fr cnt) left (dsk (headB 1) (mz (frs (P :: nbs L))) (zer 32) (zer 992))).1 = decide (32 * cnt ≤ left) ∧
    (doD (blks 0 (mz (frs (P :: nbs (L ++ [x])))) fr cnt) left (dsk (headB 1) (mz (frs (P :: nbs L))) (zer 32) (zer 992))).2.1 = dsk (headB 1) (mz (frs (P :: nbs L) ++ (frameOf (putN [x.1, x.2.1, x.2.2.1, x.2.2.2] 4)).take (32 * fr + min left (32 * cnt) - (frs (P :: nbs L)).length))) (zer 32) (zer 992) ∧
    (frs (P :: nbs L)).length + (putN [x.1, x.2.1, x.2.2.1, x.2.2.2] 4).length + 7 ≤ 992 ∧ (putN [x.1, x.2.1, x.2.2.1, x.2.2.2] 4).length + 7 + (frs (P :: nbs L)).length ≤ 32 * fr + 32 * cnt := by
  have h1 := frs_all (P := P) hL
  have h2 := nb_len hx
  have hF := frameOf_len (putN [x.1, x.2.1, x.2.2.1, x.2.2.2] 4)
  have e : frs (P :: nbs L) ++ frameOf (putN [x.1, x.2.1, x.2.2.1, x.2.2.2] 4) = frs (P :: nbs (L ++ [x])) := by
    rw [nbs_snoc, ← frs_snoc, List.cons_append]
  have hm : (frs (P :: nbs (L ++ [x]))).length ≤ 992 := by rw [← e, List.length_append]; omega
  have hD : DOk (headB 1) (mz (frs (P :: nbs L))) (zer 32) (zer 992) := ⟨headB_len 1, mz_len (by omega), zer_len 32, zer_len 992⟩
  have hfc : fr + cnt ≤ 31 := by omega
  obtain ⟨g1, g2⟩ := doD_b0 hD (mz_len hm) (fr := fr) (cnt := cnt) (left := left) hfc
  refine ⟨e, hfc, g1, ?_, by omega, by omega⟩
  rw [g2, ← e, mz_torn (by omega) hfr (by rw [hF]; exact hcnt)]

set_option maxRecDepth 20000 in
set_option maxHeartbeats 16000000 in
theorem c_MendFinds (a b : Int) (f g h : Bool) (l : List (Int × List Int)) (k : List Int) (y : List (Int × Int × Int)) (odd : Int) :
    Contract Try.prog 4 [.agg [i64 a, i64 b, .sl f (srs l), .sl g (ints k)], .sl h (rrs y), i64 odd] (bo true) [] := by
  refine contract_of_awp (rs := [6]) Try.func4 rfl Try.ntmps4 (by simp) rfl fun E => ?_
  have hmi := mayI a b l
  have hts : List.take (min l.length 4) (sentsI l 4) = sentsI l 4 := List.take_of_length_le (by simp [sentsI]; omega)
  have htq : List.take (min l.length 4) (takenI l 4) = takenI l 4 := List.take_of_length_le (by simp [takenI]; omega)
  have hsl : (sentsI l 4).length = min l.length 4 := by simp [sentsI]; omega
  have hql : (takenI l 4).length = min l.length 4 := by simp [takenI]; omega
  have ha65 := lowB_le 65535 a (by decide)
  (repeat (first | refine awp_seq ?_ | refine awp_block ?_ | ((first | refine awp_skip ?_ | refine awp_exit ?_ | refine awp_reg ttok ?_ | (refine awp_draw ttok ?dr_calm ?_; (case dr_calm => decide +kernel)) | refine awp_condM ?_); simp (maxSteps := 4000000) only [↓reduceIte, Nat.reduceLT, Nat.reduceEqDiff, reduceCtorEq, Nat.reduceAdd, Nat.reduceMul, Int.reduceLE, Int.reduceLT, Int.reduceToNat, Nat.reduceLeDiff, Nat.reduceSub, Int.reduceEq, Nat.reduceBEq, List.replicate, List.set, if_false, if_true, ne_eq, false_implies, implies_true, evA, tyA]; (repeat (with_reducible refine And.intro ?_ ?_; focus ((repeat' with_reducible apply And.intro) <;> (first | omega | with_reducible trivial | with_reducible assumption)))); (with_reducible first | refine awp_id ?_ | refine id_call ?_ | refine id_and ?_ | refine id_ex ?_ | refine id_all ?_ | refine id_le ?_))))
  refine callVC_mk fnok6 (c_Image a b f g l k) rfl ?_
  obtain ⟨n, hn⟩ : ∃ n, n = min l.length 4 := ⟨_, rfl⟩
  have hn4 : n ≤ 4 := by omega
  rw [← hn] at hts htq hsl hql ⊢
  generalize lowB 65535 a = A0 at *
  generalize lowB 255 b = B0 at *
  generalize sentsI l 4 = S at *
  generalize takenI l 4 = Q at *
  simp (maxSteps := 4000000) only [↓reduceIte, Nat.reduceLT, Nat.reduceEqDiff, reduceCtorEq, Nat.reduceAdd, Nat.reduceMul, Int.reduceLE, Int.reduceLT, Int.reduceToNat, Nat.reduceLeDiff, Nat.reduceSub, Int.reduceEq, Nat.reduceBEq, List.replicate, List.set, if_false, if_true, ne_eq, false_implies, implies_true, evA, tyA]
  (repeat (with_reducible refine And.intro ?_ ?_; focus ((repeat' with_reducible apply And.intro) <;> (first | omega | with_reducible trivial | with_reducible assumption))))
  obtain ⟨x1, x2⟩ := snapNums_bd (z := 1) hmi (by decide)
  have x3 := cps_small (z := 1) hmi (by decide) (by omega)
  obtain ⟨P, hP⟩ : ∃ P, P = cps (snapNums 1 (A0 : Int) (B0 : Int) S Q) := ⟨_, rfl⟩
  rw [← hP] at x1 x2 x3
  obtain ⟨w0, hw0, hFo⟩ := c_Format (A0 : Int) (B0 : Int) false false S Q hmi P hP (by omega) (by omega)
  have flp := frameOf_len P
  have kt : (!true) = false := rfl
  have kf : (!false) = true := rfl
  have t11 : (((1 : BitVec 32).toNat : Nat) : Int) = 1 := rfl
  have hfind : ∀ (L : List (Int × Int × Int × Int)) (w : Int), (∀ x ∈ L, nOk x) → L.length ≤ 12 → _ := fun L w hL hn => findSN (B := mz (frs (P :: nbs L))) (G := 1) (P := P) (L := L) (by have := frs_all (P := P) hL; exact mz_len (by omega)) w (by decide) (by omega) (by omega) hL (by omega) (by have := frs_all (P := P) hL; omega) (mz_take _) (hall_mz false _ (xs_ok (by omega) (by omega) hL) (by simp [nbs_len]; omega) (by have := frs_all (P := P) hL; omega)) hmi hP (zer_len 32) (zer_len 992) genz
  have hf0 := hfind [] (w0 : Int) (by simp) (by simp)
  have hfa : frs (P :: nbs []) = frameOf P := by simp [frs, nbs]
  rw [t11] at hf0
  unfold fmtD at hFo
  rw [← hfa] at hFo
  (repeat (first | refine awp_seq ?_ | refine awp_block ?_ | ((first | refine awp_skip ?_ | refine awp_exit ?_ | refine awp_reg ttok ?_ | (refine awp_draw ttok ?dr_calm ?_; (case dr_calm => decide +kernel)) | refine awp_condM ?_); simp (maxSteps := 4000000) only [↓reduceIte, Nat.reduceLT, Nat.reduceEqDiff, reduceCtorEq, Nat.reduceAdd, Nat.reduceMul, Int.reduceLE, Int.reduceLT, Int.reduceToNat, Nat.reduceLeDiff, Nat.reduceSub, Int.reduceEq, Nat.reduceBEq, List.replicate, List.set, if_false, if_true, ne_eq, false_implies, implies_true, evA, tyA, srs_take, hts, htq, srs_len, hsl, hql]; (repeat (with_reducible refine And.intro ?_ ?_; focus ((repeat' with_reducible apply And.intro) <;> (first | omega | with_reducible trivial | with_reducible assumption)))); (with_reducible first | refine awp_id ?_ | refine id_call ?_ | refine id_and ?_ | refine id_ex ?_ | refine id_all ?_ | refine id_le ?_))))
  refine callVC_mk fnok7 hFo rfl ?_
  simp (maxSteps := 4000000) only [↓reduceIte, Nat.reduceLT, Nat.reduceEqDiff, reduceCtorEq, Nat.reduceAdd, Nat.reduceMul, Int.reduceLE, Int.reduceLT, Int.reduceToNat, Nat.reduceLeDiff, Nat.reduceSub, Int.reduceEq, Nat.reduceBEq, List.replicate, List.set, if_false, if_true, ne_eq, false_implies, implies_true, evA, tyA]
  (repeat (with_reducible refine And.intro ?_ ?_; focus ((repeat' with_reducible apply And.intro) <;> (first | omega | with_reducible trivial | with_reducible assumption))))
  (repeat (first | refine awp_seq ?_ | refine awp_block ?_ | ((first | refine awp_skip ?_ | refine awp_exit ?_ | refine awp_reg ttok ?_ | (refine awp_draw ttok ?dr_calm ?_; (case dr_calm => decide +kernel)) | refine awp_condM ?_); simp (maxSteps := 4000000) only [↓reduceIte, Nat.reduceLT, Nat.reduceEqDiff, reduceCtorEq, Nat.reduceAdd, Nat.reduceMul, Int.reduceLE, Int.reduceLT, Int.reduceToNat, Nat.reduceLeDiff, Nat.reduceSub, Int.reduceEq, Nat.reduceBEq, List.replicate, List.set, if_false, if_true, ne_eq, false_implies, implies_true, evA, tyA]; (repeat (with_reducible refine And.intro ?_ ?_; focus ((repeat' with_reducible apply And.intro) <;> (first | omega | with_reducible trivial | with_reducible assumption)))); (with_reducible first | refine awp_id ?_ | refine id_call ?_ | refine id_and ?_ | refine id_ex ?_ | refine id_all ?_ | refine id_le ?_))))
  refine callVC_M [103001, 103002] fnok10 hf0 (by simp (maxSteps := 4000000) only [↓reduceIte, Nat.reduceLT, Nat.reduceEqDiff, reduceCtorEq, Nat.reduceAdd, Nat.reduceMul, Int.reduceLE, Int.reduceLT, Int.reduceToNat, Nat.reduceLeDiff, Nat.reduceSub, Int.reduceEq, Nat.reduceBEq, List.replicate, List.set, if_false, if_true, ne_eq, false_implies, implies_true, evA]; rfl) (by simp (maxSteps := 4000000) only [↓reduceIte, Nat.reduceLT, Nat.reduceEqDiff, reduceCtorEq, Nat.reduceAdd, Nat.reduceMul, Int.reduceLE, Int.reduceLT, Int.reduceToNat, Nat.reduceLeDiff, Nat.reduceSub, Int.reduceEq, Nat.reduceBEq, List.replicate, List.set, if_false, if_true, ne_eq, false_implies, implies_true, evA]) ?_
  simp (maxSteps := 4000000) only [↓reduceIte, Nat.reduceLT, Nat.reduceEqDiff, reduceCtorEq, Nat.reduceAdd, Nat.reduceMul, Int.reduceLE, Int.reduceLT, Int.reduceToNat, Nat.reduceLeDiff, Nat.reduceSub, Int.reduceEq, Nat.reduceBEq, List.replicate, List.set, if_false, if_true, ne_eq, false_implies, implies_true, evA, tyA]
  (repeat (with_reducible refine And.intro ?_ ?_; focus ((repeat' with_reducible apply And.intro) <;> (first | omega | with_reducible trivial | with_reducible assumption))))
  (repeat (first | refine awp_seq ?_ | refine awp_block ?_ | ((first | refine awp_skip ?_ | refine awp_exit ?_ | refine awp_reg ttok ?_ | (refine awp_draw ttok ?dr_calm ?_; (case dr_calm => decide +kernel)) | refine awp_condM ?_); simp (maxSteps := 4000000) only [↓reduceIte, Nat.reduceLT, Nat.reduceEqDiff, reduceCtorEq, Nat.reduceAdd, Nat.reduceMul, Int.reduceLE, Int.reduceLT, Int.reduceToNat, Nat.reduceLeDiff, Nat.reduceSub, Int.reduceEq, Nat.reduceBEq, List.replicate, List.set, if_false, if_true, ne_eq, false_implies, implies_true, evA, tyA, kt, show ((0 : Int) != 0) = false from rfl]; (repeat (with_reducible refine And.intro ?_ ?_; focus ((repeat' with_reducible apply And.intro) <;> (first | omega | with_reducible trivial | with_reducible assumption)))); (with_reducible first | refine awp_id ?_ | refine id_call ?_ | refine id_and ?_ | refine id_ex ?_ | refine id_all ?_ | refine id_le ?_))))
  refine awp_pureO 2002 (by simp (maxSteps := 4000000) only [↓reduceIte, Nat.reduceLT, Nat.reduceEqDiff, reduceCtorEq, Nat.reduceAdd, Nat.reduceMul, Int.reduceLE, Int.reduceLT, Int.reduceToNat, Nat.reduceLeDiff, Nat.reduceSub, Int.reduceEq, Nat.reduceBEq, List.replicate, List.set, if_false, if_true, ne_eq, false_implies, implies_true, evA]; rfl) rfl (by simp (maxSteps := 4000000) only [↓reduceIte, Nat.reduceLT, Nat.reduceEqDiff, reduceCtorEq, Nat.reduceAdd, Nat.reduceMul, Int.reduceLE, Int.reduceLT, Int.reduceToNat, Nat.reduceLeDiff, Nat.reduceSub, Int.reduceEq, Nat.reduceBEq, List.replicate, List.set, if_false, if_true, ne_eq, false_implies, implies_true, evA, srs_take, hts, htq]; rfl) (by simp (maxSteps := 4000000) only [↓reduceIte, Nat.reduceLT, Nat.reduceEqDiff, reduceCtorEq, Nat.reduceAdd, Nat.reduceMul, Int.reduceLE, Int.reduceLT, Int.reduceToNat, Nat.reduceLeDiff, Nat.reduceSub, Int.reduceEq, Nat.reduceBEq, List.replicate, List.set, if_false, if_true, ne_eq, false_implies, implies_true, evA, srs_len, hsl, hql]) (by decide) ?_
  refine awp_at 170 [(1, _), (2, _), (7, _), (8, _), (11, _), (13, _), (14, _), (15, _)] [(2002, _), (103001, _), (103002, _), (104003, _), (104004, _), (7000, _)] rfl (by (first | simp (maxSteps := 4000000) only [↓reduceIte, Nat.reduceLT, Nat.reduceEqDiff, reduceCtorEq, Nat.reduceAdd, Nat.reduceMul, Int.reduceLE, Int.reduceLT, Int.reduceToNat, Nat.reduceLeDiff, Nat.reduceSub, Int.reduceEq, Nat.reduceBEq, List.replicate, List.set, if_false, if_true, ne_eq, false_implies, implies_true, evA] | skip); exact ⟨rfl, rfl, rfl, rfl, rfl, rfl, rfl, rfl⟩) (by (first | simp (maxSteps := 4000000) only [↓reduceIte, Nat.reduceLT, Nat.reduceEqDiff, reduceCtorEq, Nat.reduceAdd, Nat.reduceMul, Int.reduceLE, Int.reduceLT, Int.reduceToNat, Nat.reduceLeDiff, Nat.reduceSub, Int.reduceEq, Nat.reduceBEq, List.replicate, List.set, if_false, if_true, ne_eq, false_implies, implies_true, evA] | skip); exact ⟨rfl, rfl, rfl, rfl, rfl, rfl⟩) ?_
  have hidx : ∀ W : List (Int × Int × Int), W.length = 0 → W = [] := fun W h => List.length_eq_zero_iff.1 h
  refine awp_loop (X := List (Int × Int × Int × Int) × List (Int × Int × Int) × Bool × Nat) (fun X => mkS 170 [(1, .sl h (rrs y)), (2, i64 odd), (7, .ptr 2002 0 0), (8, .ptr 103001 0 0), (11, .ptr 104003 0 0), (13, .own 7000 0 X.2.1.length), (14, bo X.2.2.1), (15, i64 X.1.length)] [(2002, { sz := 4, rows := [[i64 (A0 : Int), i64 (B0 : Int), .sl false (srs S), .sl false (ints Q)]] }), (103001, { sz := 2, rows := [[.own 103002 0 2048, i64 (X.2.2.2 : Nat)]], flat := false }), (103002, { sz := 1, rows := bys (dsk (headB 1) (mz (frs (P :: nbs X.1))) (zer 32) (zer 992)) }), (104003, { sz := 3, rows := [[i64 0, .own 104004 0 992, i64 (frs (P :: nbs X.1)).length]], flat := false }), (104004, { sz := 1, rows := bys (mz (frs (P :: nbs X.1))) }), (7000, { sz := 3, rows := rrs X.2.1 })])
    (fun X => X.1.length ≤ 12 ∧ X.1.length ≤ y.length ∧ (∀ x ∈ X.1, nOk x) ∧ X.2.1 = goodN 1 (A0 : Int) X.1 0 ∧ X.2.2.1 = decide (X.2.1.length = X.1.length) ∧ X.2.2.2 ≤ 32 + 31 * X.1.length) (fun X => 12 - X.1.length) ([], [], true, w0) ⟨by simp, by simp, by simp, rfl, rfl, by simpa using hw0⟩ (mkS_le rfl ?_ ?_) ?_
  · simp (maxSteps := 4000000) only [↓reduceIte, Nat.reduceLT, Nat.reduceEqDiff, reduceCtorEq, Nat.reduceAdd, Nat.reduceMul, Int.reduceLE, Int.reduceLT, Int.reduceToNat, Nat.reduceLeDiff, Nat.reduceSub, Int.reduceEq, Nat.reduceBEq, List.replicate, List.set, if_false, if_true, ne_eq, false_implies, implies_true, evA]
    try rfl
  · simp (maxSteps := 4000000) only [↓reduceIte, Nat.reduceLT, Nat.reduceEqDiff, reduceCtorEq, Nat.reduceAdd, Nat.reduceMul, Int.reduceLE, Int.reduceLT, Int.reduceToNat, Nat.reduceLeDiff, Nat.reduceSub, Int.reduceEq, Nat.reduceBEq, List.replicate, List.set, if_false, if_true, ne_eq, false_implies, implies_true, evA]
    try rfl
  rintro ⟨L, W, op, dn⟩ ⟨hk12, hky, hL, hW, hop, hdn⟩
  simp only at hk12 hky hL hW hop hdn
  have hfl := frs_all (P := P) hL
  have hml : (mz (frs (P :: nbs L))).length = 992 := mz_len (by omega)
  by_cases hlt : L.length < y.length ∧ L.length < 12
  · obtain ⟨hlt, h12⟩ := hlt
    have d1 : decide ((L.length : Int) < (y.length : Int)) = true := by simpa using hlt
    have d2 : decide ((L.length : Int) < 12) = true := by simp; omega
    have gi := rrs_get hlt
    have b1 := lowB_le 255 (y.getD L.length (0, 0, 0)).2.1 (by decide)
    have b2 := lowB_le 255 (y.getD L.length (0, 0, 0)).2.2 (by decide)
    generalize hv : y.getD L.length (0, 0, 0) = v at *
    have hw1 : IntKind.i64.wrap ((A0 : Int) + (L.length : Int)) = ((A0 + L.length : Nat) : Int) := by rw [i64_in (by omega) (by omega)]; omega
    (repeat (first | refine awp_seq ?_ | refine awp_block ?_ | ((first | refine awp_skip ?_ | refine awp_exit ?_ | refine awp_reg ttok ?_ | (refine awp_draw ttok ?dr_calm ?_; (case dr_calm => decide +kernel)) | refine awp_condM ?_); simp (maxSteps := 4000000) only [↓reduceIte, Nat.reduceLT, Nat.reduceEqDiff, reduceCtorEq, Nat.reduceAdd, Nat.reduceMul, Int.reduceLE, Int.reduceLT, Int.reduceToNat, Nat.reduceLeDiff, Nat.reduceSub, Int.reduceEq, Nat.reduceBEq, List.replicate, List.set, if_false, if_true, ne_eq, false_implies, implies_true, evA, tyA, d1, d2, rrs_len]; (repeat (with_reducible refine And.intro ?_ ?_; focus ((repeat' with_reducible apply And.intro) <;> (first | omega | with_reducible trivial | with_reducible assumption)))); (with_reducible first | refine awp_id ?_ | refine id_call ?_ | refine id_and ?_ | refine id_ex ?_ | refine id_all ?_ | refine id_le ?_))))
    refine awp_drawG ttok ((0, none) :: (1, none) :: (2, none) :: (3, none) :: (4, none) :: (5, none) :: (6, none) :: (7, none) :: (8, none) :: (9, none) :: (10, none) :: (11, none) :: (12, none) :: (13, none) :: (14, none) :: (15, none) :: (16, none) :: (17, some [0, 1, 2, 3, 4, 5, 6, 7, 8, 9, 10, 11, 12, 13, 14, 15, 16]) :: (18, some []) :: []) ([]) ([]) (by decide +kernel) fun O hO => ?_; simp only [OpsAre, Nat.reduceAdd, and_true, List.toList_toArray, List.append_eq, List.cons_append, List.nil_append] at hO; simp (maxSteps := 4000000) only [↓reduceIte, Nat.reduceLT, Nat.reduceEqDiff, reduceCtorEq, Nat.reduceAdd, Nat.reduceMul, Int.reduceLE, Int.reduceLT, Int.reduceToNat, Nat.reduceLeDiff, Nat.reduceSub, Int.reduceEq, Nat.reduceBEq, List.replicate, List.set, if_false, if_true, ne_eq, false_implies, implies_true, evA, tyA, hO, gi, rrs_len, low255, hw1]; (repeat (with_reducible refine And.intro ?_ ?_; focus ((repeat' with_reducible apply And.intro) <;> (first | omega | with_reducible trivial | with_reducible assumption))))
    obtain ⟨a1, ha1⟩ : ∃ a, a = lowB 255 v.2.1 := ⟨_, rfl⟩
    obtain ⟨a2, ha2⟩ : ∃ a, a = lowB 255 v.2.2 := ⟨_, rfl⟩
    rw [← ha1] at b1 ⊢
    rw [← ha2] at b2 ⊢
    clear hO
    (repeat (first | refine awp_seq ?_ | refine awp_block ?_ | ((first | refine awp_skip ?_ | refine awp_exit ?_ | refine awp_reg ttok ?_ | (refine awp_draw ttok ?dr_calm ?_; (case dr_calm => decide +kernel)) | refine awp_condM ?_); simp (maxSteps := 4000000) only [↓reduceIte, Nat.reduceLT, Nat.reduceEqDiff, reduceCtorEq, Nat.reduceAdd, Nat.reduceMul, Int.reduceLE, Int.reduceLT, Int.reduceToNat, Nat.reduceLeDiff, Nat.reduceSub, Int.reduceEq, Nat.reduceBEq, List.replicate, List.set, if_false, if_true, ne_eq, false_implies, implies_true, evA, tyA, low15]; (repeat (with_reducible refine And.intro ?_ ?_; focus ((repeat' with_reducible apply And.intro) <;> (first | omega | with_reducible trivial | with_reducible assumption)))); (with_reducible first | refine awp_id ?_ | refine id_call ?_ | refine id_and ?_ | refine id_ex ?_ | refine id_all ?_ | refine id_le ?_))))
    refine awp_joinN (X := Int × Int) (fun Y => mkS 170 [(1, .sl h (rrs y)), (2, i64 odd), (7, .ptr 2002 0 0), (8, .ptr 103001 0 0), (11, .ptr 104003 0 0), (13, .own 7000 0 W.length), (14, bo op), (15, i64 L.length), (16, .ptr 11017 0 0), (17, i64 Y.1)] [(2002, { sz := 4, rows := [[i64 (A0 : Int), i64 (B0 : Int), .sl false (srs S), .sl false (ints Q)]] }), (103001, { sz := 2, rows := [[.own 103002 0 2048, i64 (dn : Nat)]], flat := false }), (103002, { sz := 1, rows := bys (dsk (headB 1) (mz (frs (P :: nbs L))) (zer 32) (zer 992)) }), (104003, { sz := 3, rows := [[i64 0, .own 104004 0 992, i64 (frs (P :: nbs L)).length]], flat := false }), (104004, { sz := 1, rows := bys (mz (frs (P :: nbs L))) }), (7000, { sz := 3, rows := rrs W }), (11017, { sz := 3, rows := [[i64 Y.2, i64 (a1 : Int), i64 (a2 : Int)]], flat := false })]) (fun Y => (Y.1 = 1 ∨ Y.1 = 2) ∧ (Y.2 = ((A0 + L.length : Nat) : Int) ∨ Y.2 = ((A0 + L.length + 1 : Nat) : Int))) ?_ ?_
    · rintro ⟨g1, s1⟩ ⟨hg, hs⟩
      simp only at hg hs
      obtain ⟨x, hx⟩ : ∃ x : Int × Int × Int × Int, x = (g1, s1, (a1 : Int), (a2 : Int)) := ⟨_, rfl⟩
      have hxo : nOk x := by
        have o1 : okN g1 = true := by rcases hg with rfl | rfl <;> rfl
        have o2 : okN s1 = true := by simp only [okN, Bool.and_eq_true, decide_eq_true_eq]; omega
        have o3 : okN (a1 : Int) = true := by simp only [okN, Bool.and_eq_true, decide_eq_true_eq]; omega
        have o4 : okN (a2 : Int) = true := by simp only [okN, Bool.and_eq_true, decide_eq_true_eq]; omega
        rw [hx]; exact ⟨o1, o2, o3, o4⟩
      obtain ⟨o1, o2, o3, o4⟩ := hxo
      have hPut := c_rPut x.1 x.2.1 x.2.2.1 x.2.2.2 o1 (by simp only [recMay, o2, o3, o4, Bool.and_self])
      obtain ⟨fr, hfr⟩ : ∃ fr, fr = (frs (P :: nbs L)).length / 32 := ⟨_, rfl⟩
      obtain ⟨cnt, hcnt⟩ : ∃ cnt, cnt = ((frs (P :: nbs L)).length + ((putN [x.1, x.2.1, x.2.2.1, x.2.2.2] 4).length + 7) + 31) / 32 - fr := ⟨_, rfl⟩
      obtain ⟨nd1, nd2, nd3, nd4, nd5, nd6⟩ := note_done (P := P) (L := L) (x := x) (by omega) hL ⟨o1, o2, o3, o4⟩ hk12 hfr hcnt 100000
      have nbl := nb_len (x := x) ⟨o1, o2, o3, o4⟩
      have hAdd := c_jAddYes false (frs (P :: nbs L)) (putN [x.1, x.2.1, x.2.2.1, x.2.2.2] 4) 0 fr cnt (by omega) nbl.1 (by omega) (by omega) hfr hcnt
      rw [nd1] at hAdd
      have hLx : ∀ z ∈ L ++ [x], nOk z := fun z hz => by
        rcases List.mem_append.1 hz with q | q
        · exact hL z q
        · rw [List.mem_singleton.1 q]; exact ⟨o1, o2, o3, o4⟩
      have hflx := frs_all (P := P) hLx
      have hll : (L ++ [x]).length = L.length + 1 := by simp
      rw [hll] at hflx
      have hmlx : (mz (frs (P :: nbs (L ++ [x])))).length = 992 := mz_len (by omega)
      have e4 : (frameOf (putN [x.1, x.2.1, x.2.2.1, x.2.2.2] 4)).take (32 * fr + min 100000 (32 * cnt) - (frs (P :: nbs L)).length) = frameOf (putN [x.1, x.2.1, x.2.2.1, x.2.2.2] 4) := List.take_of_length_le (by rw [frameOf_len]; omega)
      rw [e4, nd1] at nd4
      have hdl : (dsk (headB 1) (mz (frs (P :: nbs L))) (zer 32) (zer 992)).length = 2048 := DOk.len ⟨headB_len 1, hml, zer_len 32, zer_len 992⟩
      have hblk := blks_len 0 (mz (frs (P :: nbs (L ++ [x])))) fr cnt
      have hDo := c_dDo false (blks 0 (mz (frs (P :: nbs (L ++ [x])))) fr cnt) (dsk (headB 1) (mz (frs (P :: nbs L))) (zer 32) (zer 992)) (dn : Int) 100000 (blks_ok (by omega) hmlx nd2) (by omega) hdl (by omega) (by omega) (by decide)
      have hwn := doD_n (blks 0 (mz (frs (P :: nbs (L ++ [x])))) fr cnt) 100000 (dsk (headB 1) (mz (frs (P :: nbs L))) (zer 32) (zer 992))
      have hle : decide (32 * cnt ≤ 100000) = true := by simp; omega
      rw [show (100000 : Int).toNat = 100000 from rfl, nd3, nd4, hle] at hDo
      generalize (doD (blks 0 (mz (frs (P :: nbs (L ++ [x])))) fr cnt) 100000 (dsk (headB 1) (mz (frs (P :: nbs L))) (zer 32) (zer 992))).2.2 = w2 at *
      have hdn2 : (dn : Int) + (w2 : Int) = ((dn + w2 : Nat) : Int) := by simp
      rw [hdn2] at hDo
      have htb : List.take cnt (blks 0 (mz (frs (P :: nbs (L ++ [x])))) fr cnt) = blks 0 (mz (frs (P :: nbs (L ++ [x])))) fr cnt := List.take_of_length_le (by omega)
      have hgs := goodN_snoc 1 (A0 : Int) x L 0
      have hWl := goodN_le 1 (A0 : Int) L 0
      have hPt : List.take (putN [x.1, x.2.1, x.2.2.1, x.2.2.2] 4).length (putN [x.1, x.2.1, x.2.2.1, x.2.2.2] 4) = putN [x.1, x.2.1, x.2.2.1, x.2.2.2] 4 := List.take_length
      have hx1 : x.1 = g1 := by rw [hx]
      have hx2 : x.2 = (s1, (a1 : Int), (a2 : Int)) := by rw [hx]
      have hxx : x.2.1 = s1 ∧ x.2.2.1 = (a1 : Int) ∧ x.2.2.2 = (a2 : Int) := by rw [hx]; exact ⟨rfl, rfl, rfl⟩
      have hPut' : Contract Try.prog 15 [i64 g1, .agg [i64 s1, i64 (a1 : Int), i64 (a2 : Int)]] (.own 0 0 (putN [x.1, x.2.1, x.2.2.1, x.2.2.2] 4).length) [{ sz := 1, rows := bys (putN [x.1, x.2.1, x.2.2.1, x.2.2.2] 4) }] := by
        rw [hx1, hxx.1, hxx.2.1, hxx.2.2] at hPut ⊢
        exact hPut
      generalize putN [x.1, x.2.1, x.2.2.1, x.2.2.2] 4 = pb at *
      (repeat (first | refine awp_seq ?_ | refine awp_block ?_ | ((first | refine awp_skip ?_ | refine awp_exit ?_ | refine awp_reg ttok ?_ | (refine awp_draw ttok ?dr_calm ?_; (case dr_calm => decide +kernel)) | refine awp_condM ?_); simp (maxSteps := 4000000) only [↓reduceIte, Nat.reduceLT, Nat.reduceEqDiff, reduceCtorEq, Nat.reduceAdd, Nat.reduceMul, Int.reduceLE, Int.reduceLT, Int.reduceToNat, Nat.reduceLeDiff, Nat.reduceSub, Int.reduceEq, Nat.reduceBEq, List.replicate, List.set, if_false, if_true, ne_eq, false_implies, implies_true, evA, tyA]; (repeat (with_reducible refine And.intro ?_ ?_; focus ((repeat' with_reducible apply And.intro) <;> (first | omega | with_reducible trivial | with_reducible assumption)))); (with_reducible first | refine awp_id ?_ | refine id_call ?_ | refine id_and ?_ | refine id_ex ?_ | refine id_all ?_ | refine id_le ?_))))
      refine callVC_mk fnok15 hPut' rfl ?_
      simp (maxSteps := 4000000) only [↓reduceIte, Nat.reduceLT, Nat.reduceEqDiff, reduceCtorEq, Nat.reduceAdd, Nat.reduceMul, Int.reduceLE, Int.reduceLT, Int.reduceToNat, Nat.reduceLeDiff, Nat.reduceSub, Int.reduceEq, Nat.reduceBEq, List.replicate, List.set, if_false, if_true, ne_eq, false_implies, implies_true, evA, tyA, hPt]
      (repeat (with_reducible refine And.intro ?_ ?_; focus ((repeat' with_reducible apply And.intro) <;> (first | omega | with_reducible trivial | with_reducible assumption))))
      refine callVC_M [104003, 104004] fnok14 hAdd (by simp (maxSteps := 4000000) only [↓reduceIte, Nat.reduceLT, Nat.reduceEqDiff, reduceCtorEq, Nat.reduceAdd, Nat.reduceMul, Int.reduceLE, Int.reduceLT, Int.reduceToNat, Nat.reduceLeDiff, Nat.reduceSub, Int.reduceEq, Nat.reduceBEq, List.replicate, List.set, if_false, if_true, ne_eq, false_implies, implies_true, evA, hPt]; rfl) (by simp (maxSteps := 4000000) only [↓reduceIte, Nat.reduceLT, Nat.reduceEqDiff, reduceCtorEq, Nat.reduceAdd, Nat.reduceMul, Int.reduceLE, Int.reduceLT, Int.reduceToNat, Nat.reduceLeDiff, Nat.reduceSub, Int.reduceEq, Nat.reduceBEq, List.replicate, List.set, if_false, if_true, ne_eq, false_implies, implies_true, evA]; rfl) ?_
      simp (maxSteps := 4000000) only [↓reduceIte, Nat.reduceLT, Nat.reduceEqDiff, reduceCtorEq, Nat.reduceAdd, Nat.reduceMul, Int.reduceLE, Int.reduceLT, Int.reduceToNat, Nat.reduceLeDiff, Nat.reduceSub, Int.reduceEq, Nat.reduceBEq, List.replicate, List.set, if_false, if_true, ne_eq, false_implies, implies_true, evA, tyA, hPt]
      (repeat (with_reducible refine And.intro ?_ ?_; focus ((repeat' with_reducible apply And.intro) <;> (first | omega | with_reducible trivial | with_reducible assumption))))
      (repeat (first | refine awp_seq ?_ | refine awp_block ?_ | ((first | refine awp_skip ?_ | refine awp_exit ?_ | refine awp_reg ttok ?_ | (refine awp_draw ttok ?dr_calm ?_; (case dr_calm => decide +kernel)) | refine awp_condM ?_); simp (maxSteps := 4000000) only [↓reduceIte, Nat.reduceLT, Nat.reduceEqDiff, reduceCtorEq, Nat.reduceAdd, Nat.reduceMul, Int.reduceLE, Int.reduceLT, Int.reduceToNat, Nat.reduceLeDiff, Nat.reduceSub, Int.reduceEq, Nat.reduceBEq, List.replicate, List.set, if_false, if_true, ne_eq, false_implies, implies_true, evA, tyA, kt]; (repeat (with_reducible refine And.intro ?_ ?_; focus ((repeat' with_reducible apply And.intro) <;> (first | omega | with_reducible trivial | with_reducible assumption)))); (with_reducible first | refine awp_id ?_ | refine id_call ?_ | refine id_and ?_ | refine id_ex ?_ | refine id_all ?_ | refine id_le ?_))))
      refine callVC_M [103001, 103002] fnok9 hDo (by simp (maxSteps := 4000000) only [↓reduceIte, Nat.reduceLT, Nat.reduceEqDiff, reduceCtorEq, Nat.reduceAdd, Nat.reduceMul, Int.reduceLE, Int.reduceLT, Int.reduceToNat, Nat.reduceLeDiff, Nat.reduceSub, Int.reduceEq, Nat.reduceBEq, List.replicate, List.set, if_false, if_true, ne_eq, false_implies, implies_true, evA, wrs_take, htb, wrs_len, hblk]; rfl) (by simp (maxSteps := 4000000) only [↓reduceIte, Nat.reduceLT, Nat.reduceEqDiff, reduceCtorEq, Nat.reduceAdd, Nat.reduceMul, Int.reduceLE, Int.reduceLT, Int.reduceToNat, Nat.reduceLeDiff, Nat.reduceSub, Int.reduceEq, Nat.reduceBEq, List.replicate, List.set, if_false, if_true, ne_eq, false_implies, implies_true, evA]) ?_
      simp (maxSteps := 4000000) only [↓reduceIte, Nat.reduceLT, Nat.reduceEqDiff, reduceCtorEq, Nat.reduceAdd, Nat.reduceMul, Int.reduceLE, Int.reduceLT, Int.reduceToNat, Nat.reduceLeDiff, Nat.reduceSub, Int.reduceEq, Nat.reduceBEq, List.replicate, List.set, if_false, if_true, ne_eq, false_implies, implies_true, evA, tyA, kt]
      (repeat (with_reducible refine And.intro ?_ ?_; focus ((repeat' with_reducible apply And.intro) <;> (first | omega | with_reducible trivial | with_reducible assumption))))
      have hWn : W.length ≤ L.length := by rw [hW]; exact hWl
      have hnext : (op = true ∧ g1 = 1 ∧ s1 = ((A0 + L.length : Nat) : Int) → goodN 1 (A0 : Int) (L ++ [x]) 0 = W ++ [x.2]) ∧ (¬ (op = true ∧ g1 = 1 ∧ s1 = ((A0 + L.length : Nat) : Int)) → goodN 1 (A0 : Int) (L ++ [x]) 0 = W) := by
        rw [hgs, ← hW, hx1, hxx.1, hop]
        refine ⟨fun hc => if_pos ?_, fun hc => if_neg ?_⟩
        · refine ⟨of_decide_eq_true hc.1, hc.2.1, ?_⟩
          have := hc.2.2; omega
        · rintro ⟨q1, q2, q3⟩
          exact hc ⟨decide_eq_true q1, q2, by omega⟩
      have hWi : op = true → W.length = L.length := fun q => by rw [hop] at q; exact of_decide_eq_true q
      have hone : [[i64 s1, i64 (a1 : Int), i64 (a2 : Int)]] = rrs [x.2] := by rw [hx2]; rfl
      have hg1 : (rrs [x.2]).getD 0 [] = [i64 s1, i64 (a1 : Int), i64 (a2 : Int)] := by rw [hx2]; rfl
      have htW : List.take W.length W = W := List.take_length
      have hwL : IntKind.i64.wrap ((L.length : Int) + 1) = ((L.length + 1 : Nat) : Int) := i64_in (by omega) (by omega)
      have e21 : ((2 : Int) == 1) = false := rfl
      have eS : (((A0 + L.length + 1 : Nat) : Int) == ((A0 + L.length : Nat) : Int)) = false := beq_eq_false_iff_ne.2 (by omega)
      clear hx hx1 hxx hPut hPut' hgs hAdd hDo
      by_cases hc : op = true ∧ g1 = 1 ∧ s1 = ((A0 + L.length : Nat) : Int)
      · have hn := hnext.1 hc
        obtain ⟨rfl, rfl, rfl⟩ := hc
        have hWi := hWi rfl
        refine awp_at 170 [(1, _), (2, _), (7, _), (8, _), (11, _), (13, _), (14, _), (15, _), (16, _), (17, _), (100, _)] [(2002, _), (103001, _), (103002, _), (104003, _), (104004, _), (7000, _), (11017, _)] rfl (by (first | simp (maxSteps := 4000000) only [↓reduceIte, Nat.reduceLT, Nat.reduceEqDiff, reduceCtorEq, Nat.reduceAdd, Nat.reduceMul, Int.reduceLE, Int.reduceLT, Int.reduceToNat, Nat.reduceLeDiff, Nat.reduceSub, Int.reduceEq, Nat.reduceBEq, List.replicate, List.set, if_false, if_true, ne_eq, false_implies, implies_true, evA] | skip); exact ⟨rfl, rfl, rfl, rfl, rfl, rfl, rfl, rfl, rfl, rfl, rfl⟩) (by (first | simp (maxSteps := 4000000) only [↓reduceIte, Nat.reduceLT, Nat.reduceEqDiff, reduceCtorEq, Nat.reduceAdd, Nat.reduceMul, Int.reduceLE, Int.reduceLT, Int.reduceToNat, Nat.reduceLeDiff, Nat.reduceSub, Int.reduceEq, Nat.reduceBEq, List.replicate, List.set, if_false, if_true, ne_eq, false_implies, implies_true, evA] | skip); exact ⟨rfl, rfl, rfl, rfl, rfl, rfl, rfl⟩) ?_
        refine awp_pureO 11017 (by simp (maxSteps := 4000000) only [↓reduceIte, Nat.reduceLT, Nat.reduceEqDiff, reduceCtorEq, Nat.reduceAdd, Nat.reduceMul, Int.reduceLE, Int.reduceLT, Int.reduceToNat, Nat.reduceLeDiff, Nat.reduceSub, Int.reduceEq, Nat.reduceBEq, List.replicate, List.set, if_false, if_true, ne_eq, false_implies, implies_true, evA]; rfl) rfl (by simp (maxSteps := 4000000) only [↓reduceIte, Nat.reduceLT, Nat.reduceEqDiff, reduceCtorEq, Nat.reduceAdd, Nat.reduceMul, Int.reduceLE, Int.reduceLT, Int.reduceToNat, Nat.reduceLeDiff, Nat.reduceSub, Int.reduceEq, Nat.reduceBEq, List.replicate, List.set, if_false, if_true, ne_eq, false_implies, implies_true, evA]; rfl) (by simp (maxSteps := 4000000) only [↓reduceIte, Nat.reduceLT, Nat.reduceEqDiff, reduceCtorEq, Nat.reduceAdd, Nat.reduceMul, Int.reduceLE, Int.reduceLT, Int.reduceToNat, Nat.reduceLeDiff, Nat.reduceSub, Int.reduceEq, Nat.reduceBEq, List.replicate, List.set, if_false, if_true, ne_eq, false_implies, implies_true, evA]) (by decide) ?_
        (repeat (first | refine awp_seq ?_ | refine awp_block ?_ | ((first | refine awp_skip ?_ | refine awp_exit ?_ | refine awp_reg ttok ?_ | (refine awp_draw ttok ?dr_calm ?_; (case dr_calm => decide +kernel)) | refine awp_condM ?_); simp (maxSteps := 4000000) only [↓reduceIte, Nat.reduceLT, Nat.reduceEqDiff, reduceCtorEq, Nat.reduceAdd, Nat.reduceMul, Int.reduceLE, Int.reduceLT, Int.reduceToNat, Nat.reduceLeDiff, Nat.reduceSub, Int.reduceEq, Nat.reduceBEq, List.replicate, List.set, if_false, if_true, ne_eq, false_implies, implies_true, evA, tyA, kt, hw1, hone, hg1, rrs_len, rrs_row, rrs_app, rrs_take, htW, hwL]; (repeat (with_reducible refine And.intro ?_ ?_; focus ((repeat' with_reducible apply And.intro) <;> (first | omega | with_reducible trivial | with_reducible assumption)))); (with_reducible first | refine awp_id ?_ | refine id_call ?_ | refine id_and ?_ | refine id_ex ?_ | refine id_all ?_ | refine id_le ?_))))
        refine ⟨(L ++ [x], W ++ [x.2], true, dn + w2), ⟨by simp only [List.length_append, List.length_singleton]; omega, by simp only [List.length_append, List.length_singleton]; omega, hLx, hn.symm, by simp [hWi], by simp only [List.length_append, List.length_singleton]; omega⟩, by simp only [List.length_append, List.length_singleton]; omega, mkS_le rfl ?_ ?_⟩
        · simp (maxSteps := 4000000) only [↓reduceIte, Nat.reduceLT, Nat.reduceEqDiff, reduceCtorEq, Nat.reduceAdd, Nat.reduceMul, Int.reduceLE, Int.reduceLT, Int.reduceToNat, Nat.reduceLeDiff, Nat.reduceSub, Int.reduceEq, Nat.reduceBEq, List.replicate, List.set, if_false, if_true, ne_eq, false_implies, implies_true, evA, hll, show (W ++ [x.2]).length = W.length + 1 from by simp]
        · simp (maxSteps := 4000000) only [↓reduceIte, Nat.reduceLT, Nat.reduceEqDiff, reduceCtorEq, Nat.reduceAdd, Nat.reduceMul, Int.reduceLE, Int.reduceLT, Int.reduceToNat, Nat.reduceLeDiff, Nat.reduceSub, Int.reduceEq, Nat.reduceBEq, List.replicate, List.set, if_false, if_true, ne_eq, false_implies, implies_true, evA]
          try rfl
      · have hn := hnext.2 hc
        have hno : ∀ op' : Bool, false = op' → op' = decide (W.length = (L ++ [x]).length) := fun op' q => by
          rw [← q]; symm; simp; omega
        have key : (op && (g1 == 1 && s1 == ((A0 + L.length : Nat) : Int))) = false := by
          rw [Bool.eq_false_iff]; intro q
          simp only [Bool.and_eq_true, beq_iff_eq] at q
          exact hc q
        cases op
        · (repeat (first | refine awp_seq ?_ | refine awp_block ?_ | ((first | refine awp_skip ?_ | refine awp_exit ?_ | refine awp_reg ttok ?_ | (refine awp_draw ttok ?dr_calm ?_; (case dr_calm => decide +kernel)) | refine awp_condM ?_); simp (maxSteps := 4000000) only [↓reduceIte, Nat.reduceLT, Nat.reduceEqDiff, reduceCtorEq, Nat.reduceAdd, Nat.reduceMul, Int.reduceLE, Int.reduceLT, Int.reduceToNat, Nat.reduceLeDiff, Nat.reduceSub, Int.reduceEq, Nat.reduceBEq, List.replicate, List.set, if_false, if_true, ne_eq, false_implies, implies_true, evA, tyA, kt, hw1, hwL]; (repeat (with_reducible refine And.intro ?_ ?_; focus ((repeat' with_reducible apply And.intro) <;> (first | omega | with_reducible trivial | with_reducible assumption)))); (with_reducible first | refine awp_id ?_ | refine id_call ?_ | refine id_and ?_ | refine id_ex ?_ | refine id_all ?_ | refine id_le ?_))))
          refine ⟨(L ++ [x], W, false, dn + w2), ⟨by simp only [List.length_append, List.length_singleton]; omega, by simp only [List.length_append, List.length_singleton]; omega, hLx, hn.symm, hno _ rfl, by simp only [List.length_append, List.length_singleton]; omega⟩, by simp only [List.length_append, List.length_singleton]; omega, mkS_le rfl ?_ ?_⟩
          · simp (maxSteps := 4000000) only [↓reduceIte, Nat.reduceLT, Nat.reduceEqDiff, reduceCtorEq, Nat.reduceAdd, Nat.reduceMul, Int.reduceLE, Int.reduceLT, Int.reduceToNat, Nat.reduceLeDiff, Nat.reduceSub, Int.reduceEq, Nat.reduceBEq, List.replicate, List.set, if_false, if_true, ne_eq, false_implies, implies_true, evA, hll]
          · simp (maxSteps := 4000000) only [↓reduceIte, Nat.reduceLT, Nat.reduceEqDiff, reduceCtorEq, Nat.reduceAdd, Nat.reduceMul, Int.reduceLE, Int.reduceLT, Int.reduceToNat, Nat.reduceLeDiff, Nat.reduceSub, Int.reduceEq, Nat.reduceBEq, List.replicate, List.set, if_false, if_true, ne_eq, false_implies, implies_true, evA]
            try rfl
        · rcases hg with rfl | rfl
          · rcases hs with rfl | rfl
            · exact absurd ⟨rfl, rfl, rfl⟩ hc
            · (repeat (first | refine awp_seq ?_ | refine awp_block ?_ | ((first | refine awp_skip ?_ | refine awp_exit ?_ | refine awp_reg ttok ?_ | (refine awp_draw ttok ?dr_calm ?_; (case dr_calm => decide +kernel)) | refine awp_condM ?_); simp (maxSteps := 4000000) only [↓reduceIte, Nat.reduceLT, Nat.reduceEqDiff, reduceCtorEq, Nat.reduceAdd, Nat.reduceMul, Int.reduceLE, Int.reduceLT, Int.reduceToNat, Nat.reduceLeDiff, Nat.reduceSub, Int.reduceEq, Nat.reduceBEq, List.replicate, List.set, if_false, if_true, ne_eq, false_implies, implies_true, evA, tyA, kt, hw1, hwL, eS]; (repeat (with_reducible refine And.intro ?_ ?_; focus ((repeat' with_reducible apply And.intro) <;> (first | omega | with_reducible trivial | with_reducible assumption)))); (with_reducible first | refine awp_id ?_ | refine id_call ?_ | refine id_and ?_ | refine id_ex ?_ | refine id_all ?_ | refine id_le ?_))))
              refine ⟨(L ++ [x], W, false, dn + w2), ⟨by simp only [List.length_append, List.length_singleton]; omega, by simp only [List.length_append, List.length_singleton]; omega, hLx, hn.symm, hno _ rfl, by simp only [List.length_append, List.length_singleton]; omega⟩, by simp only [List.length_append, List.length_singleton]; omega, mkS_le rfl ?_ ?_⟩
              · simp (maxSteps := 4000000) only [↓reduceIte, Nat.reduceLT, Nat.reduceEqDiff, reduceCtorEq, Nat.reduceAdd, Nat.reduceMul, Int.reduceLE, Int.reduceLT, Int.reduceToNat, Nat.reduceLeDiff, Nat.reduceSub, Int.reduceEq, Nat.reduceBEq, List.replicate, List.set, if_false, if_true, ne_eq, false_implies, implies_true, evA, hll]
              · simp (maxSteps := 4000000) only [↓reduceIte, Nat.reduceLT, Nat.reduceEqDiff, reduceCtorEq, Nat.reduceAdd, Nat.reduceMul, Int.reduceLE, Int.reduceLT, Int.reduceToNat, Nat.reduceLeDiff, Nat.reduceSub, Int.reduceEq, Nat.reduceBEq, List.replicate, List.set, if_false, if_true, ne_eq, false_implies, implies_true, evA]
                try rfl
          · (repeat (first | refine awp_seq ?_ | refine awp_block ?_ | ((first | refine awp_skip ?_ | refine awp_exit ?_ | refine awp_reg ttok ?_ | (refine awp_draw ttok ?dr_calm ?_; (case dr_calm => decide +kernel)) | refine awp_condM ?_); simp (maxSteps := 4000000) only [↓reduceIte, Nat.reduceLT, Nat.reduceEqDiff, reduceCtorEq, Nat.reduceAdd, Nat.reduceMul, Int.reduceLE, Int.reduceLT, Int.reduceToNat, Nat.reduceLeDiff, Nat.reduceSub, Int.reduceEq, Nat.reduceBEq, List.replicate, List.set, if_false, if_true, ne_eq, false_implies, implies_true, evA, tyA, kt, hw1, hwL, e21]; (repeat (with_reducible refine And.intro ?_ ?_; focus ((repeat' with_reducible apply And.intro) <;> (first | omega | with_reducible trivial | with_reducible assumption)))); (with_reducible first | refine awp_id ?_ | refine id_call ?_ | refine id_and ?_ | refine id_ex ?_ | refine id_all ?_ | refine id_le ?_))))
            refine ⟨(L ++ [x], W, false, dn + w2), ⟨by simp only [List.length_append, List.length_singleton]; omega, by simp only [List.length_append, List.length_singleton]; omega, hLx, hn.symm, hno _ rfl, by simp only [List.length_append, List.length_singleton]; omega⟩, by simp only [List.length_append, List.length_singleton]; omega, mkS_le rfl ?_ ?_⟩
            · simp (maxSteps := 4000000) only [↓reduceIte, Nat.reduceLT, Nat.reduceEqDiff, reduceCtorEq, Nat.reduceAdd, Nat.reduceMul, Int.reduceLE, Int.reduceLT, Int.reduceToNat, Nat.reduceLeDiff, Nat.reduceSub, Int.reduceEq, Nat.reduceBEq, List.replicate, List.set, if_false, if_true, ne_eq, false_implies, implies_true, evA, hll]
            · simp (maxSteps := 4000000) only [↓reduceIte, Nat.reduceLT, Nat.reduceEqDiff, reduceCtorEq, Nat.reduceAdd, Nat.reduceMul, Int.reduceLE, Int.reduceLT, Int.reduceToNat, Nat.reduceLeDiff, Nat.reduceSub, Int.reduceEq, Nat.reduceBEq, List.replicate, List.set, if_false, if_true, ne_eq, false_implies, implies_true, evA]
              try rfl
    · obtain ⟨z, hz⟩ : ∃ z : Int, (lowB 3 (odd.fdiv (2 ^ min 4 IntKind.i64.bits)) : Int) = z := ⟨_, rfl⟩
      have hw2 : IntKind.i64.wrap (((A0 + L.length : Nat) : Int) + 1) = ((A0 + L.length + 1 : Nat) : Int) := i64_in (by omega) (by omega)
      cases c1 : ((L.length : Int) == (lowB 15 odd : Int))
      · (repeat (first | refine awp_seq ?_ | refine awp_block ?_ | ((first | refine awp_skip ?_ | refine awp_exit ?_ | refine awp_reg ttok ?_ | (refine awp_draw ttok ?dr_calm ?_; (case dr_calm => decide +kernel)) | refine awp_condM ?_); simp (maxSteps := 4000000) only [↓reduceIte, Nat.reduceLT, Nat.reduceEqDiff, reduceCtorEq, Nat.reduceAdd, Nat.reduceMul, Int.reduceLE, Int.reduceLT, Int.reduceToNat, Nat.reduceLeDiff, Nat.reduceSub, Int.reduceEq, Nat.reduceBEq, List.replicate, List.set, if_false, if_true, ne_eq, false_implies, implies_true, evA, tyA, c1, joinN]; (repeat (with_reducible refine And.intro ?_ ?_; focus ((repeat' with_reducible apply And.intro) <;> (first | omega | with_reducible trivial | with_reducible assumption)))); (with_reducible first | refine awp_id ?_ | refine id_call ?_ | refine id_and ?_ | refine id_ex ?_ | refine id_all ?_ | refine id_le ?_))))
        refine Exists.intro (1, ((A0 + L.length : Nat) : Int)) ⟨⟨.inl rfl, .inl rfl⟩, mkS_le rfl ?_ ?_⟩
        · simp (maxSteps := 4000000) only [↓reduceIte, Nat.reduceLT, Nat.reduceEqDiff, reduceCtorEq, Nat.reduceAdd, Nat.reduceMul, Int.reduceLE, Int.reduceLT, Int.reduceToNat, Nat.reduceLeDiff, Nat.reduceSub, Int.reduceEq, Nat.reduceBEq, List.replicate, List.set, if_false, if_true, ne_eq, false_implies, implies_true, evA]
        · simp (maxSteps := 4000000) only [↓reduceIte, Nat.reduceLT, Nat.reduceEqDiff, reduceCtorEq, Nat.reduceAdd, Nat.reduceMul, Int.reduceLE, Int.reduceLT, Int.reduceToNat, Nat.reduceLeDiff, Nat.reduceSub, Int.reduceEq, Nat.reduceBEq, List.replicate, List.set, if_false, if_true, ne_eq, false_implies, implies_true, evA]
      · cases c2 : (z == 0)
        · cases c3 : (z == 1)
          · (repeat (first | refine awp_seq ?_ | refine awp_block ?_ | ((first | refine awp_skip ?_ | refine awp_exit ?_ | refine awp_reg ttok ?_ | (refine awp_draw ttok ?dr_calm ?_; (case dr_calm => decide +kernel)) | refine awp_condM ?_); simp (maxSteps := 4000000) only [↓reduceIte, Nat.reduceLT, Nat.reduceEqDiff, reduceCtorEq, Nat.reduceAdd, Nat.reduceMul, Int.reduceLE, Int.reduceLT, Int.reduceToNat, Nat.reduceLeDiff, Nat.reduceSub, Int.reduceEq, Nat.reduceBEq, List.replicate, List.set, if_false, if_true, ne_eq, false_implies, implies_true, evA, tyA, c1, low3, hz, c2, c3, joinN]; (repeat (with_reducible refine And.intro ?_ ?_; focus ((repeat' with_reducible apply And.intro) <;> (first | omega | with_reducible trivial | with_reducible assumption)))); (with_reducible first | refine awp_id ?_ | refine id_call ?_ | refine id_and ?_ | refine id_ex ?_ | refine id_all ?_ | refine id_le ?_))))
            refine Exists.intro (1, ((A0 + L.length : Nat) : Int)) ⟨⟨.inl rfl, .inl rfl⟩, mkS_le rfl ?_ ?_⟩
            · simp (maxSteps := 4000000) only [↓reduceIte, Nat.reduceLT, Nat.reduceEqDiff, reduceCtorEq, Nat.reduceAdd, Nat.reduceMul, Int.reduceLE, Int.reduceLT, Int.reduceToNat, Nat.reduceLeDiff, Nat.reduceSub, Int.reduceEq, Nat.reduceBEq, List.replicate, List.set, if_false, if_true, ne_eq, false_implies, implies_true, evA]
            · simp (maxSteps := 4000000) only [↓reduceIte, Nat.reduceLT, Nat.reduceEqDiff, reduceCtorEq, Nat.reduceAdd, Nat.reduceMul, Int.reduceLE, Int.reduceLT, Int.reduceToNat, Nat.reduceLeDiff, Nat.reduceSub, Int.reduceEq, Nat.reduceBEq, List.replicate, List.set, if_false, if_true, ne_eq, false_implies, implies_true, evA]
          · (repeat (first | refine awp_seq ?_ | refine awp_block ?_ | ((first | refine awp_skip ?_ | refine awp_exit ?_ | refine awp_reg ttok ?_ | (refine awp_draw ttok ?dr_calm ?_; (case dr_calm => decide +kernel)) | refine awp_condM ?_); simp (maxSteps := 4000000) only [↓reduceIte, Nat.reduceLT, Nat.reduceEqDiff, reduceCtorEq, Nat.reduceAdd, Nat.reduceMul, Int.reduceLE, Int.reduceLT, Int.reduceToNat, Nat.reduceLeDiff, Nat.reduceSub, Int.reduceEq, Nat.reduceBEq, List.replicate, List.set, if_false, if_true, ne_eq, false_implies, implies_true, evA, tyA, c1, low3, hz, c2, c3, hw2, joinN]; (repeat (with_reducible refine And.intro ?_ ?_; focus ((repeat' with_reducible apply And.intro) <;> (first | omega | with_reducible trivial | with_reducible assumption)))); (with_reducible first | refine awp_id ?_ | refine id_call ?_ | refine id_and ?_ | refine id_ex ?_ | refine id_all ?_ | refine id_le ?_))))
            refine Exists.intro (1, ((A0 + L.length + 1 : Nat) : Int)) ⟨⟨.inl rfl, .inr rfl⟩, mkS_le rfl ?_ ?_⟩
            · simp (maxSteps := 4000000) only [↓reduceIte, Nat.reduceLT, Nat.reduceEqDiff, reduceCtorEq, Nat.reduceAdd, Nat.reduceMul, Int.reduceLE, Int.reduceLT, Int.reduceToNat, Nat.reduceLeDiff, Nat.reduceSub, Int.reduceEq, Nat.reduceBEq, List.replicate, List.set, if_false, if_true, ne_eq, false_implies, implies_true, evA]
            · simp (maxSteps := 4000000) only [↓reduceIte, Nat.reduceLT, Nat.reduceEqDiff, reduceCtorEq, Nat.reduceAdd, Nat.reduceMul, Int.reduceLE, Int.reduceLT, Int.reduceToNat, Nat.reduceLeDiff, Nat.reduceSub, Int.reduceEq, Nat.reduceBEq, List.replicate, List.set, if_false, if_true, ne_eq, false_implies, implies_true, evA]
        · (repeat (first | refine awp_seq ?_ | refine awp_block ?_ | ((first | refine awp_skip ?_ | refine awp_exit ?_ | refine awp_reg ttok ?_ | (refine awp_draw ttok ?dr_calm ?_; (case dr_calm => decide +kernel)) | refine awp_condM ?_); simp (maxSteps := 4000000) only [↓reduceIte, Nat.reduceLT, Nat.reduceEqDiff, reduceCtorEq, Nat.reduceAdd, Nat.reduceMul, Int.reduceLE, Int.reduceLT, Int.reduceToNat, Nat.reduceLeDiff, Nat.reduceSub, Int.reduceEq, Nat.reduceBEq, List.replicate, List.set, if_false, if_true, ne_eq, false_implies, implies_true, evA, tyA, c1, low3, hz, c2, joinN]; (repeat (with_reducible refine And.intro ?_ ?_; focus ((repeat' with_reducible apply And.intro) <;> (first | omega | with_reducible trivial | with_reducible assumption)))); (with_reducible first | refine awp_id ?_ | refine id_call ?_ | refine id_and ?_ | refine id_ex ?_ | refine id_all ?_ | refine id_le ?_))))
          refine Exists.intro (2, ((A0 + L.length : Nat) : Int)) ⟨⟨.inr rfl, .inl rfl⟩, mkS_le rfl ?_ ?_⟩
          · simp (maxSteps := 4000000) only [↓reduceIte, Nat.reduceLT, Nat.reduceEqDiff, reduceCtorEq, Nat.reduceAdd, Nat.reduceMul, Int.reduceLE, Int.reduceLT, Int.reduceToNat, Nat.reduceLeDiff, Nat.reduceSub, Int.reduceEq, Nat.reduceBEq, List.replicate, List.set, if_false, if_true, ne_eq, false_implies, implies_true, evA]
          · simp (maxSteps := 4000000) only [↓reduceIte, Nat.reduceLT, Nat.reduceEqDiff, reduceCtorEq, Nat.reduceAdd, Nat.reduceMul, Int.reduceLE, Int.reduceLT, Int.reduceToNat, Nat.reduceLeDiff, Nat.reduceSub, Int.reduceEq, Nat.reduceBEq, List.replicate, List.set, if_false, if_true, ne_eq, false_implies, implies_true, evA]
  · have hfin := hfind L (dn : Int) hL hk12
    rw [t11, ← hW] at hfin
    have hdl : (dsk (headB 1) (mz (frs (P :: nbs L))) (zer 32) (zer 992)).length = 2048 := DOk.len ⟨headB_len 1, hml, zer_len 32, zer_len 992⟩
    have hS8 : ∀ x ∈ S, x.2.length ≤ 1000000 := fun x hx => by
      obtain ⟨_, _, _, _, hS⟩ := mayB_true hmi
      obtain ⟨j, hj, rfl⟩ := List.getElem_of_mem hx
      have := (sOk_true (hS j hj)).2.2.2.2.1
      have el : S.getD j (0, []) = S[j] := by simp [List.getD, List.getElem?_eq_getElem hj]
      rw [el] at this; omega
    have hSa := c_rSame false false false false (A0 : Int) (B0 : Int) S Q (A0 : Int) (B0 : Int) S Q (by omega) (by omega) hS8
    have sa : sameI (A0 : Int) (B0 : Int) S Q (A0 : Int) (B0 : Int) S Q = true := by simp [sameI]
    rw [sa] at hSa
    have hWn : W.length ≤ L.length := by rw [hW]; exact goodN_le 1 (A0 : Int) L 0
    cases c1 : decide ((L.length : Int) < (y.length : Int))
    all_goals
      cases c2 : decide ((L.length : Int) < 12)
    case true.true => 
      exfalso
      exact hlt ⟨by have := of_decide_eq_true c1; omega, by have := of_decide_eq_true c2; omega⟩
    all_goals
      (repeat (first | refine awp_seq ?_ | refine awp_block ?_ | ((first | refine awp_skip ?_ | refine awp_exit ?_ | refine awp_reg ttok ?_ | (refine awp_draw ttok ?dr_calm ?_; (case dr_calm => decide +kernel)) | refine awp_condM ?_); simp (maxSteps := 4000000) only [↓reduceIte, Nat.reduceLT, Nat.reduceEqDiff, reduceCtorEq, Nat.reduceAdd, Nat.reduceMul, Int.reduceLE, Int.reduceLT, Int.reduceToNat, Nat.reduceLeDiff, Nat.reduceSub, Int.reduceEq, Nat.reduceBEq, List.replicate, List.set, if_false, if_true, ne_eq, false_implies, implies_true, evA, tyA, c1, c2, rrs_len]; (repeat (with_reducible refine And.intro ?_ ?_; focus ((repeat' with_reducible apply And.intro) <;> (first | omega | with_reducible trivial | with_reducible assumption)))); (with_reducible first | refine awp_id ?_ | refine id_call ?_ | refine id_and ?_ | refine id_ex ?_ | refine id_all ?_ | refine id_le ?_))))
      refine callVC_M [103001, 103002] fnok10 hfin (by simp (maxSteps := 4000000) only [↓reduceIte, Nat.reduceLT, Nat.reduceEqDiff, reduceCtorEq, Nat.reduceAdd, Nat.reduceMul, Int.reduceLE, Int.reduceLT, Int.reduceToNat, Nat.reduceLeDiff, Nat.reduceSub, Int.reduceEq, Nat.reduceBEq, List.replicate, List.set, if_false, if_true, ne_eq, false_implies, implies_true, evA]; rfl) (by simp (maxSteps := 4000000) only [↓reduceIte, Nat.reduceLT, Nat.reduceEqDiff, reduceCtorEq, Nat.reduceAdd, Nat.reduceMul, Int.reduceLE, Int.reduceLT, Int.reduceToNat, Nat.reduceLeDiff, Nat.reduceSub, Int.reduceEq, Nat.reduceBEq, List.replicate, List.set, if_false, if_true, ne_eq, false_implies, implies_true, evA]) ?_
      simp (maxSteps := 4000000) only [↓reduceIte, Nat.reduceLT, Nat.reduceEqDiff, reduceCtorEq, Nat.reduceAdd, Nat.reduceMul, Int.reduceLE, Int.reduceLT, Int.reduceToNat, Nat.reduceLeDiff, Nat.reduceSub, Int.reduceEq, Nat.reduceBEq, List.replicate, List.set, if_false, if_true, ne_eq, false_implies, implies_true, evA, tyA]
      (repeat (with_reducible refine And.intro ?_ ?_; focus ((repeat' with_reducible apply And.intro) <;> (first | omega | with_reducible trivial | with_reducible assumption))))
      (repeat (first | refine awp_seq ?_ | refine awp_block ?_ | ((first | refine awp_skip ?_ | refine awp_exit ?_ | refine awp_reg ttok ?_ | (refine awp_draw ttok ?dr_calm ?_; (case dr_calm => decide +kernel)) | refine awp_condM ?_); simp (maxSteps := 4000000) only [↓reduceIte, Nat.reduceLT, Nat.reduceEqDiff, reduceCtorEq, Nat.reduceAdd, Nat.reduceMul, Int.reduceLE, Int.reduceLT, Int.reduceToNat, Nat.reduceLeDiff, Nat.reduceSub, Int.reduceEq, Nat.reduceBEq, List.replicate, List.set, if_false, if_true, ne_eq, false_implies, implies_true, evA, tyA, show ((0 : Int) != 0) = false from rfl, show ((1 : Int) != 1) = false from rfl]; (repeat (with_reducible refine And.intro ?_ ?_; focus ((repeat' with_reducible apply And.intro) <;> (first | omega | with_reducible trivial | with_reducible assumption)))); (with_reducible first | refine awp_id ?_ | refine id_call ?_ | refine id_and ?_ | refine id_ex ?_ | refine id_all ?_ | refine id_le ?_))))
      refine callVC_scal fnok11 hSa rfl ?_
      simp (maxSteps := 4000000) only [↓reduceIte, Nat.reduceLT, Nat.reduceEqDiff, reduceCtorEq, Nat.reduceAdd, Nat.reduceMul, Int.reduceLE, Int.reduceLT, Int.reduceToNat, Nat.reduceLeDiff, Nat.reduceSub, Int.reduceEq, Nat.reduceBEq, List.replicate, List.set, if_false, if_true, ne_eq, false_implies, implies_true, evA, tyA, kt, rrs_len, bne_self_eq_false]
      (repeat (with_reducible refine And.intro ?_ ?_; focus ((repeat' with_reducible apply And.intro) <;> (first | omega | with_reducible trivial | with_reducible assumption))))
      (repeat (first | refine awp_seq ?_ | refine awp_block ?_ | ((first | refine awp_skip ?_ | refine awp_exit ?_ | refine awp_reg ttok ?_ | (refine awp_draw ttok ?dr_calm ?_; (case dr_calm => decide +kernel)) | refine awp_condM ?_); simp (maxSteps := 4000000) only [↓reduceIte, Nat.reduceLT, Nat.reduceEqDiff, reduceCtorEq, Nat.reduceAdd, Nat.reduceMul, Int.reduceLE, Int.reduceLT, Int.reduceToNat, Nat.reduceLeDiff, Nat.reduceSub, Int.reduceEq, Nat.reduceBEq, List.replicate, List.set, if_false, if_true, ne_eq, false_implies, implies_true, evA, tyA, kt, rrs_len, bne_self_eq_false]; (repeat (with_reducible refine And.intro ?_ ?_; focus ((repeat' with_reducible apply And.intro) <;> (first | omega | with_reducible trivial | with_reducible assumption)))); (with_reducible first | refine awp_id ?_ | refine id_call ?_ | refine id_and ?_ | refine id_ex ?_ | refine id_all ?_ | refine id_le ?_))))
      refine awp_loop (X := Nat) (fun p => mkS 170 [(13, .own 7000 0 W.length), (20, .ptr 25006 0 0), (22, i64 p)] [(25006, { sz := 7, rows := [[i64 0, i64 1, i64 (A0 : Int), i64 (B0 : Int), .sl false (srs S), .sl false (ints Q), .sl false (rrs W)]], flat := false }), (7000, { sz := 3, rows := rrs W })]) (fun p => p ≤ W.length) (fun p => W.length - p) 0 (by omega) (mkS_le rfl ?_ ?_) ?_
      · simp (maxSteps := 4000000) only [↓reduceIte, Nat.reduceLT, Nat.reduceEqDiff, reduceCtorEq, Nat.reduceAdd, Nat.reduceMul, Int.reduceLE, Int.reduceLT, Int.reduceToNat, Nat.reduceLeDiff, Nat.reduceSub, Int.reduceEq, Nat.reduceBEq, List.replicate, List.set, if_false, if_true, ne_eq, false_implies, implies_true, evA]
        try rfl
      · simp (maxSteps := 4000000) only [↓reduceIte, Nat.reduceLT, Nat.reduceEqDiff, reduceCtorEq, Nat.reduceAdd, Nat.reduceMul, Int.reduceLE, Int.reduceLT, Int.reduceToNat, Nat.reduceLeDiff, Nat.reduceSub, Int.reduceEq, Nat.reduceBEq, List.replicate, List.set, if_false, if_true, ne_eq, false_implies, implies_true, evA]
        try rfl
      intro p hp
      by_cases hpl : p < W.length
      · have e1 : decide ((p : Int) < (W.length : Int)) = true := by simpa using hpl
        have gp := rrs_get hpl
        have hwp : IntKind.i64.wrap ((p : Int) + 1) = ((p + 1 : Nat) : Int) := i64_in (by omega) (by omega)
        generalize W.getD p (0, 0, 0) = v at gp
        (repeat (first | refine awp_seq ?_ | refine awp_block ?_ | ((first | refine awp_skip ?_ | refine awp_exit ?_ | refine awp_reg ttok ?_ | (refine awp_draw ttok ?dr_calm ?_; (case dr_calm => decide +kernel)) | refine awp_condM ?_); simp (maxSteps := 4000000) only [↓reduceIte, Nat.reduceLT, Nat.reduceEqDiff, reduceCtorEq, Nat.reduceAdd, Nat.reduceMul, Int.reduceLE, Int.reduceLT, Int.reduceToNat, Nat.reduceLeDiff, Nat.reduceSub, Int.reduceEq, Nat.reduceBEq, List.replicate, List.set, if_false, if_true, ne_eq, false_implies, implies_true, evA, tyA, e1, gp, rrs_len, bne_self_eq_false, hwp, kf, kt]; (repeat (with_reducible refine And.intro ?_ ?_; focus ((repeat' with_reducible apply And.intro) <;> (first | omega | with_reducible trivial | with_reducible assumption)))); (with_reducible first | refine awp_id ?_ | refine id_call ?_ | refine id_and ?_ | refine id_ex ?_ | refine id_all ?_ | refine id_le ?_))))
        refine ⟨p + 1, by omega, by omega, mkS_le rfl ?_ ?_⟩
        · simp (maxSteps := 4000000) only [↓reduceIte, Nat.reduceLT, Nat.reduceEqDiff, reduceCtorEq, Nat.reduceAdd, Nat.reduceMul, Int.reduceLE, Int.reduceLT, Int.reduceToNat, Nat.reduceLeDiff, Nat.reduceSub, Int.reduceEq, Nat.reduceBEq, List.replicate, List.set, if_false, if_true, ne_eq, false_implies, implies_true, evA]
        · simp (maxSteps := 4000000) only [↓reduceIte, Nat.reduceLT, Nat.reduceEqDiff, reduceCtorEq, Nat.reduceAdd, Nat.reduceMul, Int.reduceLE, Int.reduceLT, Int.reduceToNat, Nat.reduceLeDiff, Nat.reduceSub, Int.reduceEq, Nat.reduceBEq, List.replicate, List.set, if_false, if_true, ne_eq, false_implies, implies_true, evA]
      · have e1 : decide ((p : Int) < (W.length : Int)) = false := by simpa using hpl
        (repeat (first | refine awp_seq ?_ | refine awp_block ?_ | ((first | refine awp_skip ?_ | refine awp_exit ?_ | refine awp_reg ttok ?_ | (refine awp_draw ttok ?dr_calm ?_; (case dr_calm => decide +kernel)) | refine awp_condM ?_); simp (maxSteps := 4000000) only [↓reduceIte, Nat.reduceLT, Nat.reduceEqDiff, reduceCtorEq, Nat.reduceAdd, Nat.reduceMul, Int.reduceLE, Int.reduceLT, Int.reduceToNat, Nat.reduceLeDiff, Nat.reduceSub, Int.reduceEq, Nat.reduceBEq, List.replicate, List.set, if_false, if_true, ne_eq, false_implies, implies_true, evA, tyA, e1]; (repeat (with_reducible refine And.intro ?_ ?_; focus ((repeat' with_reducible apply And.intro) <;> (first | omega | with_reducible trivial | with_reducible assumption)))); (with_reducible first | refine awp_id ?_ | refine id_call ?_ | refine id_and ?_ | refine id_ex ?_ | refine id_all ?_ | refine id_le ?_))))
        refine callVC_scal fnok13 c_awake38 rfl ?_
        simp (maxSteps := 4000000) only [↓reduceIte, Nat.reduceLT, Nat.reduceEqDiff, reduceCtorEq, Nat.reduceAdd, Nat.reduceMul, Int.reduceLE, Int.reduceLT, Int.reduceToNat, Nat.reduceLeDiff, Nat.reduceSub, Int.reduceEq, Nat.reduceBEq, List.replicate, List.set, if_false, if_true, ne_eq, false_implies, implies_true, evA, tyA]
        (repeat (with_reducible refine And.intro ?_ ?_; focus ((repeat' with_reducible apply And.intro) <;> (first | omega | with_reducible trivial | with_reducible assumption))))
        (repeat (first | refine awp_seq ?_ | refine awp_block ?_ | ((first | refine awp_skip ?_ | refine awp_exit ?_ | refine awp_reg ttok ?_ | (refine awp_draw ttok ?dr_calm ?_; (case dr_calm => decide +kernel)) | refine awp_condM ?_); simp (maxSteps := 4000000) only [↓reduceIte, Nat.reduceLT, Nat.reduceEqDiff, reduceCtorEq, Nat.reduceAdd, Nat.reduceMul, Int.reduceLE, Int.reduceLT, Int.reduceToNat, Nat.reduceLeDiff, Nat.reduceSub, Int.reduceEq, Nat.reduceBEq, List.replicate, List.set, if_false, if_true, ne_eq, false_implies, implies_true, evA, tyA]; (repeat (with_reducible refine And.intro ?_ ?_; focus ((repeat' with_reducible apply And.intro) <;> (first | omega | with_reducible trivial | with_reducible assumption)))); (with_reducible first | refine awp_id ?_ | refine id_call ?_ | refine id_and ?_ | refine id_ex ?_ | refine id_all ?_ | refine id_le ?_))))
        exact awp_ret (ends_plain (.inr rfl) rfl (by simp (maxSteps := 4000000) only [↓reduceIte, Nat.reduceLT, Nat.reduceEqDiff, reduceCtorEq, Nat.reduceAdd, Nat.reduceMul, Int.reduceLE, Int.reduceLT, Int.reduceToNat, Nat.reduceLeDiff, Nat.reduceSub, Int.reduceEq, Nat.reduceBEq, List.replicate, List.set, if_false, if_true, ne_eq, false_implies, implies_true, evA]))

end Go.Proofs.Ytmfonlkigjpjcaa
