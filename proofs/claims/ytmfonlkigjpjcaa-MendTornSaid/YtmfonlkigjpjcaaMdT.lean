/-
  The contract of the law MendTorn.
-/
import Derived.Test.YtmfonlkigjpjcaaMdF
namespace Go.Proofs.Ytmfonlkigjpjcaa
open Go.Ab
set_option linter.unusedSimpArgs false
set_option linter.unusedVariables false

theorem low127 (c : Int) : IntKind.i64.wrap ((BitVec.ofInt IntKind.i64.bits c &&& BitVec.ofInt IntKind.i64.bits 127).toNat : Int) = (lowB 127 c : Int) := lowB_wrap 127 c (by decide)
theorem mz_app (p t : List UInt8) : mz (p ++ t) = p ++ (t ++ zer 992).take (992 - p.length) ∨ 992 < p.length + t.length := by
  rcases Nat.lt_or_ge 992 (p.length + t.length) with h | h
  · exact .inr h
  · left
    rw [mz, List.append_assoc]
    congr 1
    rw [List.take_append, List.take_of_length_le (by omega), List.length_append]
    congr 1
    rw [zer, zer, List.take_replicate]
    congr 1; omega

set_option maxRecDepth 20000 in
set_option maxHeartbeats 16000000 in
theorem c_MendTorn (a b : Int) (f g h : Bool) (l : List (Int × List Int)) (k : List Int) (y : List (Int × Int × Int)) (cut : Int) :
    Contract Try.prog 5 [.agg [i64 a, i64 b, .sl f (srs l), .sl g (ints k)], .sl h (rrs y), i64 cut] (bo true) [] := by
  refine contract_of_awp (rs := [6]) Try.func5 rfl Try.ntmps5 (by simp) rfl fun E => ?_
  have hmi := mayI a b l
  have hts : List.take (min l.length 4) (sentsI l 4) = sentsI l 4 := List.take_of_length_le (by simp [sentsI]; omega)
  have htq : List.take (min l.length 4) (takenI l 4) = takenI l 4 := List.take_of_length_le (by simp [takenI]; omega)
  have hsl : (sentsI l 4).length = min l.length 4 := by simp [sentsI]; omega
  have hql : (takenI l 4).length = min l.length 4 := by simp [takenI]; omega
  have ha65 := lowB_le 65535 a (by decide)
  (repeat (first | refine awp_seq ?_ | refine awp_block ?_ | ((first | refine awp_skip ?_ | refine awp_exit ?_ | refine awp_reg ttok ?_ | (refine awp_draw ttok ?dr_calm ?_; (case dr_calm => decide +kernel)) | refine awp_condM ?_); simp (maxSteps := 4000000) only [↓reduceIte, Nat.reduceLT, Nat.reduceEqDiff, reduceCtorEq, Nat.reduceAdd, Nat.reduceMul, Int.reduceLE, Int.reduceLT, Int.reduceToNat, Nat.reduceLeDiff, Nat.reduceSub, Int.reduceEq, Nat.reduceBEq, List.replicate, List.set, if_false, if_true, ne_eq, false_implies, implies_true, evA, tyA]; (repeat (with_reducible refine And.intro ?_ ?_; focus ((repeat' with_reducible apply And.intro) <;> (first | omega | with_reducible trivial | with_reducible assumption)))); (with_reducible first | refine awp_id ?_ | refine id_call ?_ | refine id_and ?_ | refine id_ex ?_ | refine id_all ?_ | refine id_le ?_))))
  refine callVC_mk fnok6 (c_Image a b f g l k) rfl ?_
  obtain ⟨n, hn⟩ : ∃ n, n = min l.length 4 := ⟨_, rfl⟩
  have hn4 : n ≤ 4 := by omega
  rw [← hn] at hts htq hsl hql ⊢
  generalize lowB 65535 a = A0 at *
  generalize lowB 255 b = B0 at *
  generalize sentsI l 4 = S at *
  generalize takenI l 4 = Q at *
  simp (maxSteps := 4000000) only [↓reduceIte, Nat.reduceLT, Nat.reduceEqDiff, reduceCtorEq, Nat.reduceAdd, Nat.reduceMul, Int.reduceLE, Int.reduceLT, Int.reduceToNat, Nat.reduceLeDiff, Nat.reduceSub, Int.reduceEq, Nat.reduceBEq, List.replicate, List.set, if_false, if_true, ne_eq, false_implies, implies_true, evA, tyA]
  (repeat (with_reducible refine And.intro ?_ ?_; focus ((repeat' with_reducible apply And.intro) <;> (first | omega | with_reducible trivial | with_reducible assumption))))
  obtain ⟨x1, x2⟩ := snapNums_bd (z := 1) hmi (by decide)
  have x3 := cps_small (z := 1) hmi (by decide) (by omega)
  obtain ⟨P, hP⟩ : ∃ P, P = cps (snapNums 1 (A0 : Int) (B0 : Int) S Q) := ⟨_, rfl⟩
  rw [← hP] at x1 x2 x3
  obtain ⟨w0, hw0, hFo⟩ := c_Format (A0 : Int) (B0 : Int) false false S Q hmi P hP (by omega) (by omega)
  have flp := frameOf_len P
  have kt : (!true) = false := rfl
  have kf : (!false) = true := rfl
  have t11 : (((1 : BitVec 32).toNat : Nat) : Int) = 1 := rfl
  have hfind : ∀ (L : List (Int × Int × Int × Int)) (w : Int), (∀ x ∈ L, nOk x) → L.length ≤ 12 → _ := fun L w hL hn => findSN (B := mz (frs (P :: nbs L))) (G := 1) (P := P) (L := L) (by have := frs_all (P := P) hL; exact mz_len (by omega)) w (by decide) (by omega) (by omega) hL (by omega) (by have := frs_all (P := P) hL; omega) (mz_take _) (hall_mz false _ (xs_ok (by omega) (by omega) hL) (by simp [nbs_len]; omega) (by have := frs_all (P := P) hL; omega)) hmi hP (zer_len 32) (zer_len 992) genz
  have hf0 := hfind [] (w0 : Int) (by simp) (by simp)
  have hfa : frs (P :: nbs []) = frameOf P := by simp [frs, nbs]
  rw [t11] at hf0
  unfold fmtD at hFo
  rw [← hfa] at hFo
  (repeat (first | refine awp_seq ?_ | refine awp_block ?_ | ((first | refine awp_skip ?_ | refine awp_exit ?_ | refine awp_reg ttok ?_ | (refine awp_draw ttok ?dr_calm ?_; (case dr_calm => decide +kernel)) | refine awp_condM ?_); simp (maxSteps := 4000000) only [↓reduceIte, Nat.reduceLT, Nat.reduceEqDiff, reduceCtorEq, Nat.reduceAdd, Nat.reduceMul, Int.reduceLE, Int.reduceLT, Int.reduceToNat, Nat.reduceLeDiff, Nat.reduceSub, Int.reduceEq, Nat.reduceBEq, List.replicate, List.set, if_false, if_true, ne_eq, false_implies, implies_true, evA, tyA, srs_take, hts, htq, srs_len, hsl, hql]; (repeat (with_reducible refine And.intro ?_ ?_; focus ((repeat' with_reducible apply And.intro) <;> (first | omega | with_reducible trivial | with_reducible assumption)))); (with_reducible first | refine awp_id ?_ | refine id_call ?_ | refine id_and ?_ | refine id_ex ?_ | refine id_all ?_ | refine id_le ?_))))
  refine callVC_mk fnok7 hFo rfl ?_
  simp (maxSteps := 4000000) only [↓reduceIte, Nat.reduceLT, Nat.reduceEqDiff, reduceCtorEq, Nat.reduceAdd, Nat.reduceMul, Int.reduceLE, Int.reduceLT, Int.reduceToNat, Nat.reduceLeDiff, Nat.reduceSub, Int.reduceEq, Nat.reduceBEq, List.replicate, List.set, if_false, if_true, ne_eq, false_implies, implies_true, evA, tyA]
  (repeat (with_reducible refine And.intro ?_ ?_; focus ((repeat' with_reducible apply And.intro) <;> (first | omega | with_reducible trivial | with_reducible assumption))))
  (repeat (first | refine awp_seq ?_ | refine awp_block ?_ | ((first | refine awp_skip ?_ | refine awp_exit ?_ | refine awp_reg ttok ?_ | (refine awp_draw ttok ?dr_calm ?_; (case dr_calm => decide +kernel)) | refine awp_condM ?_); simp (maxSteps := 4000000) only [↓reduceIte, Nat.reduceLT, Nat.reduceEqDiff, reduceCtorEq, Nat.reduceAdd, Nat.reduceMul, Int.reduceLE, Int.reduceLT, Int.reduceToNat, Nat.reduceLeDiff, Nat.reduceSub, Int.reduceEq, Nat.reduceBEq, List.replicate, List.set, if_false, if_true, ne_eq, false_implies, implies_true, evA, tyA]; (repeat (with_reducible refine And.intro ?_ ?_; focus ((repeat' with_reducible apply And.intro) <;> (first | omega | with_reducible trivial | with_reducible assumption)))); (with_reducible first | refine awp_id ?_ | refine id_call ?_ | refine id_and ?_ | refine id_ex ?_ | refine id_all ?_ | refine id_le ?_))))
  refine callVC_M [103001, 103002] fnok10 hf0 (by simp (maxSteps := 4000000) only [↓reduceIte, Nat.reduceLT, Nat.reduceEqDiff, reduceCtorEq, Nat.reduceAdd, Nat.reduceMul, Int.reduceLE, Int.reduceLT, Int.reduceToNat, Nat.reduceLeDiff, Nat.reduceSub, Int.reduceEq, Nat.reduceBEq, List.replicate, List.set, if_false, if_true, ne_eq, false_implies, implies_true, evA]; rfl) (by simp (maxSteps := 4000000) only [↓reduceIte, Nat.reduceLT, Nat.reduceEqDiff, reduceCtorEq, Nat.reduceAdd, Nat.reduceMul, Int.reduceLE, Int.reduceLT, Int.reduceToNat, Nat.reduceLeDiff, Nat.reduceSub, Int.reduceEq, Nat.reduceBEq, List.replicate, List.set, if_false, if_true, ne_eq, false_implies, implies_true, evA]) ?_
  simp (maxSteps := 4000000) only [↓reduceIte, Nat.reduceLT, Nat.reduceEqDiff, reduceCtorEq, Nat.reduceAdd, Nat.reduceMul, Int.reduceLE, Int.reduceLT, Int.reduceToNat, Nat.reduceLeDiff, Nat.reduceSub, Int.reduceEq, Nat.reduceBEq, List.replicate, List.set, if_false, if_true, ne_eq, false_implies, implies_true, evA, tyA]
  (repeat (with_reducible refine And.intro ?_ ?_; focus ((repeat' with_reducible apply And.intro) <;> (first | omega | with_reducible trivial | with_reducible assumption))))
  (repeat (first | refine awp_seq ?_ | refine awp_block ?_ | ((first | refine awp_skip ?_ | refine awp_exit ?_ | refine awp_reg ttok ?_ | (refine awp_draw ttok ?dr_calm ?_; (case dr_calm => decide +kernel)) | refine awp_condM ?_); simp (maxSteps := 4000000) only [↓reduceIte, Nat.reduceLT, Nat.reduceEqDiff, reduceCtorEq, Nat.reduceAdd, Nat.reduceMul, Int.reduceLE, Int.reduceLT, Int.reduceToNat, Nat.reduceLeDiff, Nat.reduceSub, Int.reduceEq, Nat.reduceBEq, List.replicate, List.set, if_false, if_true, ne_eq, false_implies, implies_true, evA, tyA, kt, show ((0 : Int) != 0) = false from rfl]; (repeat (with_reducible refine And.intro ?_ ?_; focus ((repeat' with_reducible apply And.intro) <;> (first | omega | with_reducible trivial | with_reducible assumption)))); (with_reducible first | refine awp_id ?_ | refine id_call ?_ | refine id_and ?_ | refine id_ex ?_ | refine id_all ?_ | refine id_le ?_))))
  refine awp_pureO 2002 (by simp (maxSteps := 4000000) only [↓reduceIte, Nat.reduceLT, Nat.reduceEqDiff, reduceCtorEq, Nat.reduceAdd, Nat.reduceMul, Int.reduceLE, Int.reduceLT, Int.reduceToNat, Nat.reduceLeDiff, Nat.reduceSub, Int.reduceEq, Nat.reduceBEq, List.replicate, List.set, if_false, if_true, ne_eq, false_implies, implies_true, evA]; rfl) rfl (by simp (maxSteps := 4000000) only [↓reduceIte, Nat.reduceLT, Nat.reduceEqDiff, reduceCtorEq, Nat.reduceAdd, Nat.reduceMul, Int.reduceLE, Int.reduceLT, Int.reduceToNat, Nat.reduceLeDiff, Nat.reduceSub, Int.reduceEq, Nat.reduceBEq, List.replicate, List.set, if_false, if_true, ne_eq, false_implies, implies_true, evA, srs_take, hts, htq]; rfl) (by simp (maxSteps := 4000000) only [↓reduceIte, Nat.reduceLT, Nat.reduceEqDiff, reduceCtorEq, Nat.reduceAdd, Nat.reduceMul, Int.reduceLE, Int.reduceLT, Int.reduceToNat, Nat.reduceLeDiff, Nat.reduceSub, Int.reduceEq, Nat.reduceBEq, List.replicate, List.set, if_false, if_true, ne_eq, false_implies, implies_true, evA, srs_len, hsl, hql]) (by decide) ?_
  refine awp_at 151 [(1, _), (2, _), (7, _), (8, _), (11, _), (13, _), (14, _)] [(2002, _), (103001, _), (103002, _), (104003, _), (104004, _)] rfl (by (first | simp (maxSteps := 4000000) only [↓reduceIte, Nat.reduceLT, Nat.reduceEqDiff, reduceCtorEq, Nat.reduceAdd, Nat.reduceMul, Int.reduceLE, Int.reduceLT, Int.reduceToNat, Nat.reduceLeDiff, Nat.reduceSub, Int.reduceEq, Nat.reduceBEq, List.replicate, List.set, if_false, if_true, ne_eq, false_implies, implies_true, evA] | skip); exact ⟨rfl, rfl, rfl, rfl, rfl, rfl, rfl⟩) (by (first | simp (maxSteps := 4000000) only [↓reduceIte, Nat.reduceLT, Nat.reduceEqDiff, reduceCtorEq, Nat.reduceAdd, Nat.reduceMul, Int.reduceLE, Int.reduceLT, Int.reduceToNat, Nat.reduceLeDiff, Nat.reduceSub, Int.reduceEq, Nat.reduceBEq, List.replicate, List.set, if_false, if_true, ne_eq, false_implies, implies_true, evA] | skip); exact ⟨rfl, rfl, rfl, rfl, rfl⟩) ?_
  refine awp_loop (X := List (Int × Int × Int × Int) × Nat) (fun X => mkS 151 [(1, .sl h (rrs y)), (2, i64 cut), (7, .ptr 2002 0 0), (8, .ptr 103001 0 0), (11, .ptr 104003 0 0), (13, i64 X.1.length), (14, i64 X.1.length)] [(2002, { sz := 4, rows := [[i64 (A0 : Int), i64 (B0 : Int), .sl false (srs S), .sl false (ints Q)]] }), (103001, { sz := 2, rows := [[.own 103002 0 2048, i64 (X.2 : Nat)]], flat := false }), (103002, { sz := 1, rows := bys (dsk (headB 1) (mz (frs (P :: nbs X.1))) (zer 32) (zer 992)) }), (104003, { sz := 3, rows := [[i64 0, .own 104004 0 992, i64 (frs (P :: nbs X.1)).length]], flat := false }), (104004, { sz := 1, rows := bys (mz (frs (P :: nbs X.1))) })])
    (fun X => X.1.length ≤ 11 ∧ X.1.length ≤ y.length ∧ (∀ x ∈ X.1, nOk x) ∧ (goodN 1 (A0 : Int) X.1 0).length = X.1.length ∧ X.2 ≤ 32 + 31 * X.1.length) (fun X => 12 - X.1.length) ([], w0) ⟨by simp, by simp, by simp, rfl, by simpa using hw0⟩ (mkS_le rfl ?_ ?_) ?_
  · simp (maxSteps := 4000000) only [↓reduceIte, Nat.reduceLT, Nat.reduceEqDiff, reduceCtorEq, Nat.reduceAdd, Nat.reduceMul, Int.reduceLE, Int.reduceLT, Int.reduceToNat, Nat.reduceLeDiff, Nat.reduceSub, Int.reduceEq, Nat.reduceBEq, List.replicate, List.set, if_false, if_true, ne_eq, false_implies, implies_true, evA]
    try rfl
  · simp (maxSteps := 4000000) only [↓reduceIte, Nat.reduceLT, Nat.reduceEqDiff, reduceCtorEq, Nat.reduceAdd, Nat.reduceMul, Int.reduceLE, Int.reduceLT, Int.reduceToNat, Nat.reduceLeDiff, Nat.reduceSub, Int.reduceEq, Nat.reduceBEq, List.replicate, List.set, if_false, if_true, ne_eq, false_implies, implies_true, evA]
    try rfl
  rintro ⟨L, dn⟩ ⟨hk12, hky, hL, hW, hdn⟩
  simp only at hk12 hky hL hW hdn
  have hfl := frs_all (P := P) hL
  have hml : (mz (frs (P :: nbs L))).length = 992 := mz_len (by omega)
  have d2 : decide ((L.length : Int) < 12) = true := by simp; omega
  by_cases hlt : L.length < y.length
  · have d1 : decide ((L.length : Int) < (y.length : Int)) = true := by simpa using hlt
    have gi := rrs_get hlt
    have b1 := lowB_le 65535 (y.getD L.length (0, 0, 0)).2.1 (by decide)
    have b2 := lowB_le 65535 (y.getD L.length (0, 0, 0)).2.2 (by decide)
    generalize hv : y.getD L.length (0, 0, 0) = v at *
    have hw1 : IntKind.i64.wrap ((A0 : Int) + (L.length : Int)) = ((A0 + L.length : Nat) : Int) := by rw [i64_in (by omega) (by omega)]; omega
    have l1 := low65535 v.2.1
    have l2 := low65535 v.2.2
    obtain ⟨a1, ha1⟩ : ∃ a, a = lowB 65535 v.2.1 := ⟨_, rfl⟩
    obtain ⟨a2, ha2⟩ : ∃ a, a = lowB 65535 v.2.2 := ⟨_, rfl⟩
    rw [← ha1] at b1 l1
    rw [← ha2] at b2 l2
    obtain ⟨x, hx⟩ : ∃ x : Int × Int × Int × Int, x = (1, ((A0 + L.length : Nat) : Int), (a1 : Int), (a2 : Int)) := ⟨_, rfl⟩
    have hxo : nOk x := by
      have o2 : okN ((A0 + L.length : Nat) : Int) = true := by simp only [okN, Bool.and_eq_true, decide_eq_true_eq]; omega
      have o3 : okN (a1 : Int) = true := by simp only [okN, Bool.and_eq_true, decide_eq_true_eq]; omega
      have o4 : okN (a2 : Int) = true := by simp only [okN, Bool.and_eq_true, decide_eq_true_eq]; omega
      rw [hx]; exact ⟨rfl, o2, o3, o4⟩
    obtain ⟨o1, o2, o3, o4⟩ := hxo
    have hPut := c_rPut x.1 x.2.1 x.2.2.1 x.2.2.2 o1 (by simp only [recMay, o2, o3, o4, Bool.and_self])
    obtain ⟨fr, hfr⟩ : ∃ fr, fr = (frs (P :: nbs L)).length / 32 := ⟨_, rfl⟩
    obtain ⟨cnt, hcnt⟩ : ∃ cnt, cnt = ((frs (P :: nbs L)).length + ((putN [x.1, x.2.1, x.2.2.1, x.2.2.2] 4).length + 7) + 31) / 32 - fr := ⟨_, rfl⟩
    have hnd := note_done (P := P) (L := L) (x := x) (by omega) hL ⟨o1, o2, o3, o4⟩ (by omega) hfr hcnt
    obtain ⟨nd1, nd2, _, _, nd5, nd6⟩ := hnd 0
    have nbl := nb_len (x := x) ⟨o1, o2, o3, o4⟩
    have hAdd := c_jAddYes false (frs (P :: nbs L)) (putN [x.1, x.2.1, x.2.2.1, x.2.2.2] 4) 0 fr cnt (by omega) nbl.1 (by omega) (by omega) hfr hcnt
    rw [nd1] at hAdd
    have hLx : ∀ z ∈ L ++ [x], nOk z := fun z hz => by
      rcases List.mem_append.1 hz with q | q
      · exact hL z q
      · rw [List.mem_singleton.1 q]; exact ⟨o1, o2, o3, o4⟩
    have hflx := frs_all (P := P) hLx
    have hll : (L ++ [x]).length = L.length + 1 := by simp
    rw [hll] at hflx
    have hmlx : (mz (frs (P :: nbs (L ++ [x])))).length = 992 := mz_len (by omega)
    have hdl : (dsk (headB 1) (mz (frs (P :: nbs L))) (zer 32) (zer 992)).length = 2048 := DOk.len ⟨headB_len 1, hml, zer_len 32, zer_len 992⟩
    have hblk := blks_len 0 (mz (frs (P :: nbs (L ++ [x])))) fr cnt
    have hPt : List.take (putN [x.1, x.2.1, x.2.2.1, x.2.2.2] 4).length (putN [x.1, x.2.1, x.2.2.1, x.2.2.2] 4) = putN [x.1, x.2.1, x.2.2.1, x.2.2.2] 4 := List.take_length
    have hPut' : Contract Try.prog 15 [i64 1, .agg [i64 ((A0 + L.length : Nat) : Int), i64 (a1 : Int), i64 (a2 : Int)]] (.own 0 0 (putN [x.1, x.2.1, x.2.2.1, x.2.2.2] 4).length) [{ sz := 1, rows := bys (putN [x.1, x.2.1, x.2.2.1, x.2.2.2] 4) }] := by
      have e : [i64 x.1, D.agg [i64 x.2.1, i64 x.2.2.1, i64 x.2.2.2]] = [i64 1, .agg [i64 ((A0 + L.length : Nat) : Int), i64 (a1 : Int), i64 (a2 : Int)]] := by rw [hx]
      rw [e] at hPut
      exact hPut
    have hgs : (goodN 1 (A0 : Int) (L ++ [x]) 0).length = L.length + 1 := by
      have hx1 : x.1 = 1 := by rw [hx]
      have hx2 : x.2.1 - (A0 : Int) = ((0 + L.length : Nat) : Int) := by rw [hx]; simp only; omega
      rw [goodN_snoc, if_pos ⟨hW, hx1, hx2⟩, List.length_append, hW]; rfl
    have htb : List.take cnt (blks 0 (mz (frs (P :: nbs (L ++ [x])))) fr cnt) = blks 0 (mz (frs (P :: nbs (L ++ [x])))) fr cnt := List.take_of_length_le (by omega)
    (repeat (first | refine awp_seq ?_ | refine awp_block ?_ | ((first | refine awp_skip ?_ | refine awp_exit ?_ | refine awp_reg ttok ?_ | (refine awp_draw ttok ?dr_calm ?_; (case dr_calm => decide +kernel)) | refine awp_condM ?_); simp (maxSteps := 4000000) only [↓reduceIte, Nat.reduceLT, Nat.reduceEqDiff, reduceCtorEq, Nat.reduceAdd, Nat.reduceMul, Int.reduceLE, Int.reduceLT, Int.reduceToNat, Nat.reduceLeDiff, Nat.reduceSub, Int.reduceEq, Nat.reduceBEq, List.replicate, List.set, if_false, if_true, ne_eq, false_implies, implies_true, evA, tyA, d1, d2, rrs_len]; (repeat (with_reducible refine And.intro ?_ ?_; focus ((repeat' with_reducible apply And.intro) <;> (first | omega | with_reducible trivial | with_reducible assumption)))); (with_reducible first | refine awp_id ?_ | refine id_call ?_ | refine id_and ?_ | refine id_ex ?_ | refine id_all ?_ | refine id_le ?_))))
    refine awp_drawG ttok ((0, none) :: (1, none) :: (2, none) :: (3, none) :: (4, none) :: (5, none) :: (6, none) :: (7, none) :: (8, none) :: (9, none) :: (10, none) :: (11, none) :: (12, none) :: (13, none) :: (14, none) :: (15, none) :: (16, none) :: (17, none) :: (18, some [0]) :: (19, some []) :: (20, none) :: (21, none) :: (22, none) :: (23, none) :: (24, none) :: []) (0 :: 1 :: 2 :: 3 :: 4 :: 5 :: 6 :: 7 :: 8 :: 9 :: 10 :: 11 :: 12 :: 13 :: 14 :: 15 :: 16 :: 17 :: 18 :: 19 :: 20 :: 21 :: 22 :: 23 :: 24 :: []) (0 :: 1 :: 2 :: 3 :: 4 :: 5 :: 6 :: 7 :: 8 :: 9 :: 10 :: 11 :: 12 :: 13 :: 14 :: 15 :: 16 :: 17 :: 18 :: 19 :: 20 :: 21 :: 23 :: 22 :: 24 :: []) (by decide +kernel) fun O hO => ?_; simp only [OpsAre, Nat.reduceAdd, and_true, List.toList_toArray, List.append_eq, List.cons_append, List.nil_append] at hO; simp (maxSteps := 4000000) only [↓reduceIte, Nat.reduceLT, Nat.reduceEqDiff, reduceCtorEq, Nat.reduceAdd, Nat.reduceMul, Int.reduceLE, Int.reduceLT, Int.reduceToNat, Nat.reduceLeDiff, Nat.reduceSub, Int.reduceEq, Nat.reduceBEq, List.replicate, List.set, if_false, if_true, ne_eq, false_implies, implies_true, evA, tyA, hO, gi, rrs_len, l1, l2, hw1]; (repeat (with_reducible refine And.intro ?_ ?_; focus ((repeat' with_reducible apply And.intro) <;> (first | omega | with_reducible trivial | with_reducible assumption))))
    refine callVC_mk fnok15 hPut' rfl ?_
    simp (maxSteps := 4000000) only [↓reduceIte, Nat.reduceLT, Nat.reduceEqDiff, reduceCtorEq, Nat.reduceAdd, Nat.reduceMul, Int.reduceLE, Int.reduceLT, Int.reduceToNat, Nat.reduceLeDiff, Nat.reduceSub, Int.reduceEq, Nat.reduceBEq, List.replicate, List.set, if_false, if_true, ne_eq, false_implies, implies_true, evA, tyA, hO, gi, rrs_len, l1, l2, hw1, hPt]
    (repeat (with_reducible refine And.intro ?_ ?_; focus ((repeat' with_reducible apply And.intro) <;> (first | omega | with_reducible trivial | with_reducible assumption))))
    refine callVC_M [104003, 104004] fnok14 hAdd (by simp (maxSteps := 4000000) only [↓reduceIte, Nat.reduceLT, Nat.reduceEqDiff, reduceCtorEq, Nat.reduceAdd, Nat.reduceMul, Int.reduceLE, Int.reduceLT, Int.reduceToNat, Nat.reduceLeDiff, Nat.reduceSub, Int.reduceEq, Nat.reduceBEq, List.replicate, List.set, if_false, if_true, ne_eq, false_implies, implies_true, evA, hPt]; rfl) (by simp (maxSteps := 4000000) only [↓reduceIte, Nat.reduceLT, Nat.reduceEqDiff, reduceCtorEq, Nat.reduceAdd, Nat.reduceMul, Int.reduceLE, Int.reduceLT, Int.reduceToNat, Nat.reduceLeDiff, Nat.reduceSub, Int.reduceEq, Nat.reduceBEq, List.replicate, List.set, if_false, if_true, ne_eq, false_implies, implies_true, evA]; rfl) ?_
    simp (maxSteps := 4000000) only [↓reduceIte, Nat.reduceLT, Nat.reduceEqDiff, reduceCtorEq, Nat.reduceAdd, Nat.reduceMul, Int.reduceLE, Int.reduceLT, Int.reduceToNat, Nat.reduceLeDiff, Nat.reduceSub, Int.reduceEq, Nat.reduceBEq, List.replicate, List.set, if_false, if_true, ne_eq, false_implies, implies_true, evA, tyA, hO, gi, rrs_len, l1, l2, hw1, hPt]
    (repeat (with_reducible refine And.intro ?_ ?_; focus ((repeat' with_reducible apply And.intro) <;> (first | omega | with_reducible trivial | with_reducible assumption))))
    clear hO
    have hwL : IntKind.i64.wrap ((L.length : Int) + 1) = ((L.length + 1 : Nat) : Int) := i64_in (by omega) (by omega)
    by_cases hgo : L.length + 1 < y.length ∧ L.length < 11
    · have d3 : decide (((L.length + 1 : Nat) : Int) < (y.length : Int)) = true := by simp; omega
      have d4 : decide ((L.length : Int) < 11) = true := by simp; omega
      have hDo := c_dDo false (blks 0 (mz (frs (P :: nbs (L ++ [x])))) fr cnt) (dsk (headB 1) (mz (frs (P :: nbs L))) (zer 32) (zer 992)) (dn : Int) 100000 (blks_ok (by omega) hmlx nd2) (by omega) hdl (by omega) (by omega) (by decide)
      obtain ⟨_, _, nd3, nd4, _, _⟩ := hnd 100000
      have e4 : (frameOf (putN [x.1, x.2.1, x.2.2.1, x.2.2.2] 4)).take (32 * fr + min 100000 (32 * cnt) - (frs (P :: nbs L)).length) = frameOf (putN [x.1, x.2.1, x.2.2.1, x.2.2.2] 4) := List.take_of_length_le (by rw [frameOf_len]; omega)
      rw [e4, nd1] at nd4
      have hwn := doD_n (blks 0 (mz (frs (P :: nbs (L ++ [x])))) fr cnt) 100000 (dsk (headB 1) (mz (frs (P :: nbs L))) (zer 32) (zer 992))
      have hle : decide (32 * cnt ≤ 100000) = true := by simp; omega
      rw [show (100000 : Int).toNat = 100000 from rfl, nd3, nd4, hle] at hDo
      generalize (doD (blks 0 (mz (frs (P :: nbs (L ++ [x])))) fr cnt) 100000 (dsk (headB 1) (mz (frs (P :: nbs L))) (zer 32) (zer 992))).2.2 = w2 at *
      have hdn2 : (dn : Int) + (w2 : Int) = ((dn + w2 : Nat) : Int) := by simp
      rw [hdn2] at hDo
      (repeat (first | refine awp_seq ?_ | refine awp_block ?_ | ((first | refine awp_skip ?_ | refine awp_exit ?_ | refine awp_reg ttok ?_ | (refine awp_draw ttok ?dr_calm ?_; (case dr_calm => decide +kernel)) | refine awp_condM ?_); simp (maxSteps := 4000000) only [↓reduceIte, Nat.reduceLT, Nat.reduceEqDiff, reduceCtorEq, Nat.reduceAdd, Nat.reduceMul, Int.reduceLE, Int.reduceLT, Int.reduceToNat, Nat.reduceLeDiff, Nat.reduceSub, Int.reduceEq, Nat.reduceBEq, List.replicate, List.set, if_false, if_true, ne_eq, false_implies, implies_true, evA, tyA, kt, d3, d4, hwL, rrs_len]; (repeat (with_reducible refine And.intro ?_ ?_; focus ((repeat' with_reducible apply And.intro) <;> (first | omega | with_reducible trivial | with_reducible assumption)))); (with_reducible first | refine awp_id ?_ | refine id_call ?_ | refine id_and ?_ | refine id_ex ?_ | refine id_all ?_ | refine id_le ?_))))
      refine callVC_M [103001, 103002] fnok9 hDo (by simp (maxSteps := 4000000) only [↓reduceIte, Nat.reduceLT, Nat.reduceEqDiff, reduceCtorEq, Nat.reduceAdd, Nat.reduceMul, Int.reduceLE, Int.reduceLT, Int.reduceToNat, Nat.reduceLeDiff, Nat.reduceSub, Int.reduceEq, Nat.reduceBEq, List.replicate, List.set, if_false, if_true, ne_eq, false_implies, implies_true, evA, wrs_take, htb, wrs_len, hblk]; rfl) (by simp (maxSteps := 4000000) only [↓reduceIte, Nat.reduceLT, Nat.reduceEqDiff, reduceCtorEq, Nat.reduceAdd, Nat.reduceMul, Int.reduceLE, Int.reduceLT, Int.reduceToNat, Nat.reduceLeDiff, Nat.reduceSub, Int.reduceEq, Nat.reduceBEq, List.replicate, List.set, if_false, if_true, ne_eq, false_implies, implies_true, evA]) ?_
      simp (maxSteps := 4000000) only [↓reduceIte, Nat.reduceLT, Nat.reduceEqDiff, reduceCtorEq, Nat.reduceAdd, Nat.reduceMul, Int.reduceLE, Int.reduceLT, Int.reduceToNat, Nat.reduceLeDiff, Nat.reduceSub, Int.reduceEq, Nat.reduceBEq, List.replicate, List.set, if_false, if_true, ne_eq, false_implies, implies_true, evA, tyA]
      (repeat (with_reducible refine And.intro ?_ ?_; focus ((repeat' with_reducible apply And.intro) <;> (first | omega | with_reducible trivial | with_reducible assumption))))
      (repeat (first | refine awp_seq ?_ | refine awp_block ?_ | ((first | refine awp_skip ?_ | refine awp_exit ?_ | refine awp_reg ttok ?_ | (refine awp_draw ttok ?dr_calm ?_; (case dr_calm => decide +kernel)) | refine awp_condM ?_); simp (maxSteps := 4000000) only [↓reduceIte, Nat.reduceLT, Nat.reduceEqDiff, reduceCtorEq, Nat.reduceAdd, Nat.reduceMul, Int.reduceLE, Int.reduceLT, Int.reduceToNat, Nat.reduceLeDiff, Nat.reduceSub, Int.reduceEq, Nat.reduceBEq, List.replicate, List.set, if_false, if_true, ne_eq, false_implies, implies_true, evA, tyA, hwL]; (repeat (with_reducible refine And.intro ?_ ?_; focus ((repeat' with_reducible apply And.intro) <;> (first | omega | with_reducible trivial | with_reducible assumption)))); (with_reducible first | refine awp_id ?_ | refine id_call ?_ | refine id_and ?_ | refine id_ex ?_ | refine id_all ?_ | refine id_le ?_))))
      refine ⟨(L ++ [x], dn + w2), ⟨by simp only [List.length_append, List.length_singleton]; omega, by simp only [List.length_append, List.length_singleton]; omega, hLx, by rw [hgs, hll], by simp only [List.length_append, List.length_singleton]; omega⟩, by simp only [List.length_append, List.length_singleton]; omega, mkS_le rfl ?_ ?_⟩
      · simp (maxSteps := 4000000) only [↓reduceIte, Nat.reduceLT, Nat.reduceEqDiff, reduceCtorEq, Nat.reduceAdd, Nat.reduceMul, Int.reduceLE, Int.reduceLT, Int.reduceToNat, Nat.reduceLeDiff, Nat.reduceSub, Int.reduceEq, Nat.reduceBEq, List.replicate, List.set, if_false, if_true, ne_eq, false_implies, implies_true, evA, hll]
      · simp (maxSteps := 4000000) only [↓reduceIte, Nat.reduceLT, Nat.reduceEqDiff, reduceCtorEq, Nat.reduceAdd, Nat.reduceMul, Int.reduceLE, Int.reduceLT, Int.reduceToNat, Nat.reduceLeDiff, Nat.reduceSub, Int.reduceEq, Nat.reduceBEq, List.replicate, List.set, if_false, if_true, ne_eq, false_implies, implies_true, evA]
        try rfl
    · have hS8 : ∀ x ∈ S, x.2.length ≤ 1000000 := fun x hx => by
        obtain ⟨_, _, _, _, hS⟩ := mayB_true hmi
        obtain ⟨j, hj, rfl⟩ := List.getElem_of_mem hx
        have := (sOk_true (hS j hj)).2.2.2.2.1
        have el : S.getD j (0, []) = S[j] := by simp [List.getD, List.getElem?_eq_getElem hj]
        rw [el] at this; omega
      have hSa := c_rSame false false false false (A0 : Int) (B0 : Int) S Q (A0 : Int) (B0 : Int) S Q (by omega) (by omega) hS8
      have sa : sameI (A0 : Int) (B0 : Int) S Q (A0 : Int) (B0 : Int) S Q = true := by simp [sameI]
      rw [sa] at hSa
      have hc127 := lowB_le 127 cut (by decide)
      have l127 := low127 cut
      generalize lowB 127 cut = c at *
      have hDo := c_dDo false (blks 0 (mz (frs (P :: nbs (L ++ [x])))) fr cnt) (dsk (headB 1) (mz (frs (P :: nbs L))) (zer 32) (zer 992)) (dn : Int) (c : Int) (blks_ok (by omega) hmlx nd2) (by omega) hdl (by omega) (by omega) (by omega)
      obtain ⟨_, _, nd3, nd4, _, _⟩ := hnd c
      rw [show ((c : Int)).toNat = c from Int.toNat_natCast c, nd3, nd4] at hDo
      generalize (doD (blks 0 (mz (frs (P :: nbs (L ++ [x])))) fr cnt) c (dsk (headB 1) (mz (frs (P :: nbs L))) (zer 32) (zer 992))).2.2 = w2 at *
      have hdn2 : (dn : Int) + (w2 : Int) = ((dn + w2 : Nat) : Int) := by simp
      rw [hdn2] at hDo
      have hF := frameOf_len (putN [x.1, x.2.1, x.2.2.1, x.2.2.2] 4)
      obtain ⟨t, ht⟩ : ∃ t, t = 32 * fr + min c (32 * cnt) - (frs (P :: nbs L)).length := ⟨_, rfl⟩
      rw [← ht] at hDo
      have q0 : ((0 : Int) == 0) = true := rfl
      have eL : (((L.length + 1 : Nat) : Int) == (L.length : Int)) = false := beq_eq_false_iff_ne.2 (by omega)
      by_cases hfull : (frameOf (putN [x.1, x.2.1, x.2.2.1, x.2.2.2] 4)).length ≤ t
      · rw [List.take_of_length_le hfull, nd1] at hDo
        have hfin := hfind (L ++ [x]) ((dn + w2 : Nat) : Int) hLx (by rw [hll]; omega)
        rw [t11] at hfin
        have hc0 : decide ((c : Int) > 0) = true := by simp; omega
        have hdl2 : (dsk (headB 1) (mz (frs (P :: nbs (L ++ [x])))) (zer 32) (zer 992)).length = 2048 := DOk.len ⟨headB_len 1, hmlx, zer_len 32, zer_len 992⟩
        generalize goodN 1 (A0 : Int) (L ++ [x]) 0 = R at *
        cases d3 : decide (((L.length + 1 : Nat) : Int) < (y.length : Int)) <;> cases d4 : decide ((L.length : Int) < 11) <;> cases ca : decide (32 * cnt ≤ c)
        all_goals first
          | (exfalso; exact hgo ⟨by have := of_decide_eq_true d3; omega, by have := of_decide_eq_true d4; omega⟩)
          | skip
        all_goals
          (repeat (first | refine awp_seq ?_ | refine awp_block ?_ | ((first | refine awp_skip ?_ | refine awp_exit ?_ | refine awp_reg ttok ?_ | (refine awp_draw ttok ?dr_calm ?_; (case dr_calm => decide +kernel)) | refine awp_condM ?_); simp (maxSteps := 4000000) only [↓reduceIte, Nat.reduceLT, Nat.reduceEqDiff, reduceCtorEq, Nat.reduceAdd, Nat.reduceMul, Int.reduceLE, Int.reduceLT, Int.reduceToNat, Nat.reduceLeDiff, Nat.reduceSub, Int.reduceEq, Nat.reduceBEq, List.replicate, List.set, if_false, if_true, ne_eq, false_implies, implies_true, evA, tyA, kt, d3, d4, hwL, rrs_len, l127]; (repeat (with_reducible refine And.intro ?_ ?_; focus ((repeat' with_reducible apply And.intro) <;> (first | omega | with_reducible trivial | with_reducible assumption)))); (with_reducible first | refine awp_id ?_ | refine id_call ?_ | refine id_and ?_ | refine id_ex ?_ | refine id_all ?_ | refine id_le ?_))))
          refine callVC_M [103001, 103002] fnok9 hDo (by simp (maxSteps := 4000000) only [↓reduceIte, Nat.reduceLT, Nat.reduceEqDiff, reduceCtorEq, Nat.reduceAdd, Nat.reduceMul, Int.reduceLE, Int.reduceLT, Int.reduceToNat, Nat.reduceLeDiff, Nat.reduceSub, Int.reduceEq, Nat.reduceBEq, List.replicate, List.set, if_false, if_true, ne_eq, false_implies, implies_true, evA, wrs_take, htb, wrs_len, hblk]; rfl) (by simp (maxSteps := 4000000) only [↓reduceIte, Nat.reduceLT, Nat.reduceEqDiff, reduceCtorEq, Nat.reduceAdd, Nat.reduceMul, Int.reduceLE, Int.reduceLT, Int.reduceToNat, Nat.reduceLeDiff, Nat.reduceSub, Int.reduceEq, Nat.reduceBEq, List.replicate, List.set, if_false, if_true, ne_eq, false_implies, implies_true, evA]) ?_
          simp (maxSteps := 4000000) only [↓reduceIte, Nat.reduceLT, Nat.reduceEqDiff, reduceCtorEq, Nat.reduceAdd, Nat.reduceMul, Int.reduceLE, Int.reduceLT, Int.reduceToNat, Nat.reduceLeDiff, Nat.reduceSub, Int.reduceEq, Nat.reduceBEq, List.replicate, List.set, if_false, if_true, ne_eq, false_implies, implies_true, evA, tyA, ca]
          (repeat (with_reducible refine And.intro ?_ ?_; focus ((repeat' with_reducible apply And.intro) <;> (first | omega | with_reducible trivial | with_reducible assumption))))
          (repeat (first | refine awp_seq ?_ | refine awp_block ?_ | ((first | refine awp_skip ?_ | refine awp_exit ?_ | refine awp_reg ttok ?_ | (refine awp_draw ttok ?dr_calm ?_; (case dr_calm => decide +kernel)) | refine awp_condM ?_); simp (maxSteps := 4000000) only [↓reduceIte, Nat.reduceLT, Nat.reduceEqDiff, reduceCtorEq, Nat.reduceAdd, Nat.reduceMul, Int.reduceLE, Int.reduceLT, Int.reduceToNat, Nat.reduceLeDiff, Nat.reduceSub, Int.reduceEq, Nat.reduceBEq, List.replicate, List.set, if_false, if_true, ne_eq, false_implies, implies_true, evA, tyA]; (repeat (with_reducible refine And.intro ?_ ?_; focus ((repeat' with_reducible apply And.intro) <;> (first | omega | with_reducible trivial | with_reducible assumption)))); (with_reducible first | refine awp_id ?_ | refine id_call ?_ | refine id_and ?_ | refine id_ex ?_ | refine id_all ?_ | refine id_le ?_))))
          refine callVC_M [103001, 103002] fnok10 hfin (by simp (maxSteps := 4000000) only [↓reduceIte, Nat.reduceLT, Nat.reduceEqDiff, reduceCtorEq, Nat.reduceAdd, Nat.reduceMul, Int.reduceLE, Int.reduceLT, Int.reduceToNat, Nat.reduceLeDiff, Nat.reduceSub, Int.reduceEq, Nat.reduceBEq, List.replicate, List.set, if_false, if_true, ne_eq, false_implies, implies_true, evA]; rfl) (by simp (maxSteps := 4000000) only [↓reduceIte, Nat.reduceLT, Nat.reduceEqDiff, reduceCtorEq, Nat.reduceAdd, Nat.reduceMul, Int.reduceLE, Int.reduceLT, Int.reduceToNat, Nat.reduceLeDiff, Nat.reduceSub, Int.reduceEq, Nat.reduceBEq, List.replicate, List.set, if_false, if_true, ne_eq, false_implies, implies_true, evA]) ?_
          simp (maxSteps := 4000000) only [↓reduceIte, Nat.reduceLT, Nat.reduceEqDiff, reduceCtorEq, Nat.reduceAdd, Nat.reduceMul, Int.reduceLE, Int.reduceLT, Int.reduceToNat, Nat.reduceLeDiff, Nat.reduceSub, Int.reduceEq, Nat.reduceBEq, List.replicate, List.set, if_false, if_true, ne_eq, false_implies, implies_true, evA, tyA]
          (repeat (with_reducible refine And.intro ?_ ?_; focus ((repeat' with_reducible apply And.intro) <;> (first | omega | with_reducible trivial | with_reducible assumption))))
          (repeat (first | refine awp_seq ?_ | refine awp_block ?_ | ((first | refine awp_skip ?_ | refine awp_exit ?_ | refine awp_reg ttok ?_ | (refine awp_draw ttok ?dr_calm ?_; (case dr_calm => decide +kernel)) | refine awp_condM ?_); simp (maxSteps := 4000000) only [↓reduceIte, Nat.reduceLT, Nat.reduceEqDiff, reduceCtorEq, Nat.reduceAdd, Nat.reduceMul, Int.reduceLE, Int.reduceLT, Int.reduceToNat, Nat.reduceLeDiff, Nat.reduceSub, Int.reduceEq, Nat.reduceBEq, List.replicate, List.set, if_false, if_true, ne_eq, false_implies, implies_true, evA, tyA]; (repeat (with_reducible refine And.intro ?_ ?_; focus ((repeat' with_reducible apply And.intro) <;> (first | omega | with_reducible trivial | with_reducible assumption)))); (with_reducible first | refine awp_id ?_ | refine id_call ?_ | refine id_and ?_ | refine id_ex ?_ | refine id_all ?_ | refine id_le ?_))))
          refine callVC_scal fnok13 c_awake38 rfl ?_
          simp (maxSteps := 4000000) only [↓reduceIte, Nat.reduceLT, Nat.reduceEqDiff, reduceCtorEq, Nat.reduceAdd, Nat.reduceMul, Int.reduceLE, Int.reduceLT, Int.reduceToNat, Nat.reduceLeDiff, Nat.reduceSub, Int.reduceEq, Nat.reduceBEq, List.replicate, List.set, if_false, if_true, ne_eq, false_implies, implies_true, evA, tyA]
          (repeat (with_reducible refine And.intro ?_ ?_; focus ((repeat' with_reducible apply And.intro) <;> (first | omega | with_reducible trivial | with_reducible assumption))))
          refine callVC_scal fnok11 hSa rfl ?_
          simp (maxSteps := 4000000) only [↓reduceIte, Nat.reduceLT, Nat.reduceEqDiff, reduceCtorEq, Nat.reduceAdd, Nat.reduceMul, Int.reduceLE, Int.reduceLT, Int.reduceToNat, Nat.reduceLeDiff, Nat.reduceSub, Int.reduceEq, Nat.reduceBEq, List.replicate, List.set, if_false, if_true, ne_eq, false_implies, implies_true, evA, tyA, rrs_len, hgs, eL, hwL, kt, kf, l127, hc0]
          (repeat (with_reducible refine And.intro ?_ ?_; focus ((repeat' with_reducible apply And.intro) <;> (first | omega | with_reducible trivial | with_reducible assumption))))
          (repeat (first | refine awp_seq ?_ | refine awp_block ?_ | ((first | refine awp_skip ?_ | refine awp_exit ?_ | refine awp_reg ttok ?_ | (refine awp_draw ttok ?dr_calm ?_; (case dr_calm => decide +kernel)) | refine awp_condM ?_); simp (maxSteps := 4000000) only [↓reduceIte, Nat.reduceLT, Nat.reduceEqDiff, reduceCtorEq, Nat.reduceAdd, Nat.reduceMul, Int.reduceLE, Int.reduceLT, Int.reduceToNat, Nat.reduceLeDiff, Nat.reduceSub, Int.reduceEq, Nat.reduceBEq, List.replicate, List.set, if_false, if_true, ne_eq, false_implies, implies_true, evA, tyA]; (repeat (with_reducible refine And.intro ?_ ?_; focus ((repeat' with_reducible apply And.intro) <;> (first | omega | with_reducible trivial | with_reducible assumption)))); (with_reducible first | refine awp_id ?_ | refine id_call ?_ | refine id_and ?_ | refine id_ex ?_ | refine id_all ?_ | refine id_le ?_))))
          exact awp_ret (ends_plain (.inr rfl) rfl (by simp (maxSteps := 4000000) only [↓reduceIte, Nat.reduceLT, Nat.reduceEqDiff, reduceCtorEq, Nat.reduceAdd, Nat.reduceMul, Int.reduceLE, Int.reduceLT, Int.reduceToNat, Nat.reduceLeDiff, Nat.reduceSub, Int.reduceEq, Nat.reduceBEq, List.replicate, List.set, if_false, if_true, ne_eq, false_implies, implies_true, evA]))
      · have hBeq : mz (frs (P :: nbs L) ++ (frameOf (putN [x.1, x.2.1, x.2.2.1, x.2.2.2] 4)).take t) = frs (P :: nbs L) ++ ((frameOf (putN [x.1, x.2.1, x.2.2.1, x.2.2.2] 4)).take t ++ zer 992).take (992 - (frs (P :: nbs L)).length) := by
          rcases mz_app (frs (P :: nbs L)) ((frameOf (putN [x.1, x.2.1, x.2.2.1, x.2.2.2] 4)).take t) with h | h
          · exact h
          · rw [List.length_take] at h; omega
        have hBl : (mz (frs (P :: nbs L) ++ (frameOf (putN [x.1, x.2.1, x.2.2.1, x.2.2.2] 4)).take t)).length = 992 := mz_len (by rw [List.length_append, List.length_take]; omega)
        have hall := c_fAllTorn (P :: nbs L) (putN [x.1, x.2.1, x.2.2.1, x.2.2.2] 4) t (992 - (frs (P :: nbs L)).length) (xs_ok (by omega) (by omega) hL) (by simp [nbs_len]; omega) nbl.1 (by omega) (by omega) (by omega) (by omega)
        rw [← hBeq] at hall
        have hfin := findSN (B := mz (frs (P :: nbs L) ++ (frameOf (putN [x.1, x.2.1, x.2.2.1, x.2.2.2] 4)).take t)) (G := 1) (P := P) (L := L) hBl ((dn + w2 : Nat) : Int) (by decide) (by omega) (by omega) hL (by omega) (by omega) (by rw [hBeq, List.take_append_of_le_length (Nat.le_refl _), List.take_length]) hall hmi hP (zer_len 32) (zer_len 992) genz
        rw [t11] at hfin
        have ca : decide (32 * cnt ≤ c) = false := by
          apply decide_eq_false
          intro hcc
          rw [hF] at hfull
          omega
        rw [ca] at hDo
        have hdl2 : (dsk (headB 1) (mz (frs (P :: nbs L) ++ (frameOf (putN [x.1, x.2.1, x.2.2.1, x.2.2.2] 4)).take t)) (zer 32) (zer 992)).length = 2048 := DOk.len ⟨headB_len 1, hBl, zer_len 32, zer_len 992⟩
        generalize goodN 1 (A0 : Int) L 0 = R at *
        cases d3 : decide (((L.length + 1 : Nat) : Int) < (y.length : Int)) <;> cases d4 : decide ((L.length : Int) < 11) <;> cases hc0 : decide ((c : Int) > 0)
        all_goals first
          | (exfalso; exact hgo ⟨by have := of_decide_eq_true d3; omega, by have := of_decide_eq_true d4; omega⟩)
          | skip
        all_goals
          (repeat (first | refine awp_seq ?_ | refine awp_block ?_ | ((first | refine awp_skip ?_ | refine awp_exit ?_ | refine awp_reg ttok ?_ | (refine awp_draw ttok ?dr_calm ?_; (case dr_calm => decide +kernel)) | refine awp_condM ?_); simp (maxSteps := 4000000) only [↓reduceIte, Nat.reduceLT, Nat.reduceEqDiff, reduceCtorEq, Nat.reduceAdd, Nat.reduceMul, Int.reduceLE, Int.reduceLT, Int.reduceToNat, Nat.reduceLeDiff, Nat.reduceSub, Int.reduceEq, Nat.reduceBEq, List.replicate, List.set, if_false, if_true, ne_eq, false_implies, implies_true, evA, tyA, kt, d3, d4, hwL, rrs_len, l127]; (repeat (with_reducible refine And.intro ?_ ?_; focus ((repeat' with_reducible apply And.intro) <;> (first | omega | with_reducible trivial | with_reducible assumption)))); (with_reducible first | refine awp_id ?_ | refine id_call ?_ | refine id_and ?_ | refine id_ex ?_ | refine id_all ?_ | refine id_le ?_))))
          refine callVC_M [103001, 103002] fnok9 hDo (by simp (maxSteps := 4000000) only [↓reduceIte, Nat.reduceLT, Nat.reduceEqDiff, reduceCtorEq, Nat.reduceAdd, Nat.reduceMul, Int.reduceLE, Int.reduceLT, Int.reduceToNat, Nat.reduceLeDiff, Nat.reduceSub, Int.reduceEq, Nat.reduceBEq, List.replicate, List.set, if_false, if_true, ne_eq, false_implies, implies_true, evA, wrs_take, htb, wrs_len, hblk]; rfl) (by simp (maxSteps := 4000000) only [↓reduceIte, Nat.reduceLT, Nat.reduceEqDiff, reduceCtorEq, Nat.reduceAdd, Nat.reduceMul, Int.reduceLE, Int.reduceLT, Int.reduceToNat, Nat.reduceLeDiff, Nat.reduceSub, Int.reduceEq, Nat.reduceBEq, List.replicate, List.set, if_false, if_true, ne_eq, false_implies, implies_true, evA]) ?_
          simp (maxSteps := 4000000) only [↓reduceIte, Nat.reduceLT, Nat.reduceEqDiff, reduceCtorEq, Nat.reduceAdd, Nat.reduceMul, Int.reduceLE, Int.reduceLT, Int.reduceToNat, Nat.reduceLeDiff, Nat.reduceSub, Int.reduceEq, Nat.reduceBEq, List.replicate, List.set, if_false, if_true, ne_eq, false_implies, implies_true, evA, tyA]
          (repeat (with_reducible refine And.intro ?_ ?_; focus ((repeat' with_reducible apply And.intro) <;> (first | omega | with_reducible trivial | with_reducible assumption))))
          (repeat (first | refine awp_seq ?_ | refine awp_block ?_ | ((first | refine awp_skip ?_ | refine awp_exit ?_ | refine awp_reg ttok ?_ | (refine awp_draw ttok ?dr_calm ?_; (case dr_calm => decide +kernel)) | refine awp_condM ?_); simp (maxSteps := 4000000) only [↓reduceIte, Nat.reduceLT, Nat.reduceEqDiff, reduceCtorEq, Nat.reduceAdd, Nat.reduceMul, Int.reduceLE, Int.reduceLT, Int.reduceToNat, Nat.reduceLeDiff, Nat.reduceSub, Int.reduceEq, Nat.reduceBEq, List.replicate, List.set, if_false, if_true, ne_eq, false_implies, implies_true, evA, tyA]; (repeat (with_reducible refine And.intro ?_ ?_; focus ((repeat' with_reducible apply And.intro) <;> (first | omega | with_reducible trivial | with_reducible assumption)))); (with_reducible first | refine awp_id ?_ | refine id_call ?_ | refine id_and ?_ | refine id_ex ?_ | refine id_all ?_ | refine id_le ?_))))
          refine callVC_M [103001, 103002] fnok10 hfin (by simp (maxSteps := 4000000) only [↓reduceIte, Nat.reduceLT, Nat.reduceEqDiff, reduceCtorEq, Nat.reduceAdd, Nat.reduceMul, Int.reduceLE, Int.reduceLT, Int.reduceToNat, Nat.reduceLeDiff, Nat.reduceSub, Int.reduceEq, Nat.reduceBEq, List.replicate, List.set, if_false, if_true, ne_eq, false_implies, implies_true, evA]; rfl) (by simp (maxSteps := 4000000) only [↓reduceIte, Nat.reduceLT, Nat.reduceEqDiff, reduceCtorEq, Nat.reduceAdd, Nat.reduceMul, Int.reduceLE, Int.reduceLT, Int.reduceToNat, Nat.reduceLeDiff, Nat.reduceSub, Int.reduceEq, Nat.reduceBEq, List.replicate, List.set, if_false, if_true, ne_eq, false_implies, implies_true, evA]) ?_
          simp (maxSteps := 4000000) only [↓reduceIte, Nat.reduceLT, Nat.reduceEqDiff, reduceCtorEq, Nat.reduceAdd, Nat.reduceMul, Int.reduceLE, Int.reduceLT, Int.reduceToNat, Nat.reduceLeDiff, Nat.reduceSub, Int.reduceEq, Nat.reduceBEq, List.replicate, List.set, if_false, if_true, ne_eq, false_implies, implies_true, evA, tyA]
          (repeat (with_reducible refine And.intro ?_ ?_; focus ((repeat' with_reducible apply And.intro) <;> (first | omega | with_reducible trivial | with_reducible assumption))))
          (repeat (first | refine awp_seq ?_ | refine awp_block ?_ | ((first | refine awp_skip ?_ | refine awp_exit ?_ | refine awp_reg ttok ?_ | (refine awp_draw ttok ?dr_calm ?_; (case dr_calm => decide +kernel)) | refine awp_condM ?_); simp (maxSteps := 4000000) only [↓reduceIte, Nat.reduceLT, Nat.reduceEqDiff, reduceCtorEq, Nat.reduceAdd, Nat.reduceMul, Int.reduceLE, Int.reduceLT, Int.reduceToNat, Nat.reduceLeDiff, Nat.reduceSub, Int.reduceEq, Nat.reduceBEq, List.replicate, List.set, if_false, if_true, ne_eq, false_implies, implies_true, evA, tyA]; (repeat (with_reducible refine And.intro ?_ ?_; focus ((repeat' with_reducible apply And.intro) <;> (first | omega | with_reducible trivial | with_reducible assumption)))); (with_reducible first | refine awp_id ?_ | refine id_call ?_ | refine id_and ?_ | refine id_ex ?_ | refine id_all ?_ | refine id_le ?_))))
          refine callVC_scal fnok13 c_awake38 rfl ?_
          simp (maxSteps := 4000000) only [↓reduceIte, Nat.reduceLT, Nat.reduceEqDiff, reduceCtorEq, Nat.reduceAdd, Nat.reduceMul, Int.reduceLE, Int.reduceLT, Int.reduceToNat, Nat.reduceLeDiff, Nat.reduceSub, Int.reduceEq, Nat.reduceBEq, List.replicate, List.set, if_false, if_true, ne_eq, false_implies, implies_true, evA, tyA]
          (repeat (with_reducible refine And.intro ?_ ?_; focus ((repeat' with_reducible apply And.intro) <;> (first | omega | with_reducible trivial | with_reducible assumption))))
          refine callVC_scal fnok11 hSa rfl ?_
          simp (maxSteps := 4000000) only [↓reduceIte, Nat.reduceLT, Nat.reduceEqDiff, reduceCtorEq, Nat.reduceAdd, Nat.reduceMul, Int.reduceLE, Int.reduceLT, Int.reduceToNat, Nat.reduceLeDiff, Nat.reduceSub, Int.reduceEq, Nat.reduceBEq, List.replicate, List.set, if_false, if_true, ne_eq, false_implies, implies_true, evA, tyA, rrs_len, hW, hwL, kt, kf, l127, hc0]
          (repeat (with_reducible refine And.intro ?_ ?_; focus ((repeat' with_reducible apply And.intro) <;> (first | omega | with_reducible trivial | with_reducible assumption))))
          (repeat (first | refine awp_seq ?_ | refine awp_block ?_ | ((first | refine awp_skip ?_ | refine awp_exit ?_ | refine awp_reg ttok ?_ | (refine awp_draw ttok ?dr_calm ?_; (case dr_calm => decide +kernel)) | refine awp_condM ?_); simp (maxSteps := 4000000) only [↓reduceIte, Nat.reduceLT, Nat.reduceEqDiff, reduceCtorEq, Nat.reduceAdd, Nat.reduceMul, Int.reduceLE, Int.reduceLT, Int.reduceToNat, Nat.reduceLeDiff, Nat.reduceSub, Int.reduceEq, Nat.reduceBEq, List.replicate, List.set, if_false, if_true, ne_eq, false_implies, implies_true, evA, tyA]; (repeat (with_reducible refine And.intro ?_ ?_; focus ((repeat' with_reducible apply And.intro) <;> (first | omega | with_reducible trivial | with_reducible assumption)))); (with_reducible first | refine awp_id ?_ | refine id_call ?_ | refine id_and ?_ | refine id_ex ?_ | refine id_all ?_ | refine id_le ?_))))
          exact awp_ret (ends_plain (.inr rfl) rfl (by simp (maxSteps := 4000000) only [↓reduceIte, Nat.reduceLT, Nat.reduceEqDiff, reduceCtorEq, Nat.reduceAdd, Nat.reduceMul, Int.reduceLE, Int.reduceLT, Int.reduceToNat, Nat.reduceLeDiff, Nat.reduceSub, Int.reduceEq, Nat.reduceBEq, List.replicate, List.set, if_false, if_true, ne_eq, false_implies, implies_true, evA]))
  · have d1 : decide ((L.length : Int) < (y.length : Int)) = false := by simp; omega
    (repeat (first | refine awp_seq ?_ | refine awp_block ?_ | ((first | refine awp_skip ?_ | refine awp_exit ?_ | refine awp_reg ttok ?_ | (refine awp_draw ttok ?dr_calm ?_; (case dr_calm => decide +kernel)) | refine awp_condM ?_); simp (maxSteps := 4000000) only [↓reduceIte, Nat.reduceLT, Nat.reduceEqDiff, reduceCtorEq, Nat.reduceAdd, Nat.reduceMul, Int.reduceLE, Int.reduceLT, Int.reduceToNat, Nat.reduceLeDiff, Nat.reduceSub, Int.reduceEq, Nat.reduceBEq, List.replicate, List.set, if_false, if_true, ne_eq, false_implies, implies_true, evA, tyA, d1, rrs_len]; (repeat (with_reducible refine And.intro ?_ ?_; focus ((repeat' with_reducible apply And.intro) <;> (first | omega | with_reducible trivial | with_reducible assumption)))); (with_reducible first | refine awp_id ?_ | refine id_call ?_ | refine id_and ?_ | refine id_ex ?_ | refine id_all ?_ | refine id_le ?_))))
    refine callVC_scal fnok13 c_awake38 rfl ?_
    simp (maxSteps := 4000000) only [↓reduceIte, Nat.reduceLT, Nat.reduceEqDiff, reduceCtorEq, Nat.reduceAdd, Nat.reduceMul, Int.reduceLE, Int.reduceLT, Int.reduceToNat, Nat.reduceLeDiff, Nat.reduceSub, Int.reduceEq, Nat.reduceBEq, List.replicate, List.set, if_false, if_true, ne_eq, false_implies, implies_true, evA, tyA]
    (repeat (with_reducible refine And.intro ?_ ?_; focus ((repeat' with_reducible apply And.intro) <;> (first | omega | with_reducible trivial | with_reducible assumption))))
    (repeat (first | refine awp_seq ?_ | refine awp_block ?_ | ((first | refine awp_skip ?_ | refine awp_exit ?_ | refine awp_reg ttok ?_ | (refine awp_draw ttok ?dr_calm ?_; (case dr_calm => decide +kernel)) | refine awp_condM ?_); simp (maxSteps := 4000000) only [↓reduceIte, Nat.reduceLT, Nat.reduceEqDiff, reduceCtorEq, Nat.reduceAdd, Nat.reduceMul, Int.reduceLE, Int.reduceLT, Int.reduceToNat, Nat.reduceLeDiff, Nat.reduceSub, Int.reduceEq, Nat.reduceBEq, List.replicate, List.set, if_false, if_true, ne_eq, false_implies, implies_true, evA, tyA]; (repeat (with_reducible refine And.intro ?_ ?_; focus ((repeat' with_reducible apply And.intro) <;> (first | omega | with_reducible trivial | with_reducible assumption)))); (with_reducible first | refine awp_id ?_ | refine id_call ?_ | refine id_and ?_ | refine id_ex ?_ | refine id_all ?_ | refine id_le ?_))))
    exact awp_ret (ends_plain (.inr rfl) rfl (by simp (maxSteps := 4000000) only [↓reduceIte, Nat.reduceLT, Nat.reduceEqDiff, reduceCtorEq, Nat.reduceAdd, Nat.reduceMul, Int.reduceLE, Int.reduceLT, Int.reduceToNat, Nat.reduceLeDiff, Nat.reduceSub, Int.reduceEq, Nat.reduceBEq, List.replicate, List.set, if_false, if_true, ne_eq, false_implies, implies_true, evA]))

end Go.Proofs.Ytmfonlkigjpjcaa
