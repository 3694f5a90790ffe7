/-
  The contract of the law SnapAny.
-/
import Derived.Test.YtfllndodnhmhkaaSn9
namespace Go.Proofs.Ytfllndodnhmhkaa
open Go.Ab
set_option linter.unusedSimpArgs false
set_option linter.unusedVariables false

theorem low1 (c : Int) : IntKind.i64.wrap ((BitVec.ofInt IntKind.i64.bits c &&& BitVec.ofInt IntKind.i64.bits 1).toNat : Int) = (lowB 1 c : Int) := lowB_wrap 1 c (by decide)
theorem tmodN (a b : Nat) : Int.tmod (a : Int) (b : Int) = ((a % b : Nat) : Int) := rfl
theorem u8_any (n : Int) : ∃ Y : UInt8, IntKind.u8.wrap n = (Y.toNat : Int) := by
  refine ⟨UInt8.ofNat (IntKind.u8.wrap n).toNat, ?_⟩
  have h : 0 ≤ IntKind.u8.wrap n ∧ IntKind.u8.wrap n < 256 := by
    simp only [IntKind.wrap, IntKind.signed, IntKind.bits]; simp; omega
  simp only [UInt8.toNat_ofNat']; omega

/-- An image by picks may be. -/
theorem mayI (a b : Int) (l : List (Int × List Int)) : mayB (lowB 65535 a : Int) (lowB 255 b : Int) (sentsI l 4) (takenI l 4) = true := by
  have h1 : okI (lowB 65535 a : Int) = true := by have := lowB_le 65535 a (by decide); rw [okI_iff]; omega
  have h2 : okI (lowB 255 b : Int) = true := by have := lowB_le 255 b (by decide); rw [okI_iff]; omega
  have hl : (sentsI l 4).length = (takenI l 4).length := by simp [sentsI, takenI]
  have h16 : (sentsI l 4).length ≤ 16 := by simp [sentsI]; omega
  simp only [mayB, h1, h2, decide_eq_true hl, decide_eq_true h16, Bool.true_and]
  rw [allS, List.all_eq_true]
  intro j hj
  have hj : j < (sentsI l 4).length := List.mem_range.1 hj
  have hj4 : j < (l.take 4).length := by simpa [sentsI] using hj
  have e1 : (sentsI l 4).getD j (0, []) = sentI ((l.take 4)[j]) := by
    rw [List.getD, List.getElem?_eq_getElem hj]
    simp only [sentsI, List.getElem_map, Option.getD_some]
  have e2 : (takenI l 4).getD j 0 = (lowB 7 (lowB 63 ((l.take 4)[j]).1 : Int) : Int) := by
    rw [List.getD, takenI, List.getElem?_map, List.getElem?_eq_getElem hj4]
    rfl
  rw [e1, e2]
  generalize (l.take 4)[j] = x
  have q1 := lowB_le 63 x.1 (by decide)
  have q2 := lowB_le 7 (lowB 63 x.1 : Int) (by decide)
  have q3 : okI (sentI x).1 = true := by rw [okI_iff]; simp only [sentI]; omega
  have q4 : okI (lowB 7 (lowB 63 x.1 : Int) : Int) = true := by rw [okI_iff]; omega
  have q5 : ((sentI x).2.length : Int) ≤ (if 8 < (sentI x).1 then 8 else (sentI x).1) := by
    have es : (sentI x).1 = (lowB 63 x.1 : Int) := rfl
    have el : (sentI x).2.length = min (min 8 (lowB 63 x.1)) x.2.length := by simp [sentI]
    by_cases h8 : (8 : Int) < (sentI x).1
    · rw [if_pos h8]; omega
    · rw [if_neg h8]; omega
  have q6 : ((sentI x).2.any fun x => !okI x) = false := by
    rw [List.any_eq_false]
    intro y hy
    simp only [sentI, List.mem_map] at hy
    obtain ⟨z, _, rfl⟩ := hy
    have := lowB_le 1023 z (by decide)
    have : okI (lowB 1023 z : Int) = true := by rw [okI_iff]; omega
    simp [this]
  simp only [sOk, q3, q4, decide_eq_true q5, q6, Bool.true_and, Bool.not_false]

theorem snapNums_bd {z a b : Int} {l : List (Int × List Int)} {k : List Int} (hm : mayB a b l k = true) (hz : z ≤ 2147483647) : (cps (snapNums z a b l k)).length ≤ 1000 ∧ 4 ≤ (cps (snapNums z a b l k)).length := by
  obtain ⟨hlk, h16, hA, hB, hS⟩ := mayB_true hm
  have ha := (okI_iff a).1 hA
  have hb := (okI_iff b).1 hB
  have h1 := cps_len (snapNums z a b l k) (sNums_bd hS hz ha.2 hb.2 h16 l.length (Nat.le_refl _))
  have h2 : (snapNums z a b l k).length ≤ 4 + 11 * l.length := sNums_ct hS l.length (Nat.le_refl _)
  refine ⟨by omega, ?_⟩
  have p := codePut_pos
  have e : cps (snapNums z a b l k) = codePut z.toNat ++ (codePut a.toNat ++ (codePut b.toNat ++ (codePut (l.length : Int).toNat ++ cps (sNums l k l.length)))) := rfl
  rw [e]
  simp only [List.length_append]
  have := p z.toNat; have := p a.toNat; have := p b.toNat; have := p (l.length : Int).toNat
  omega

set_option maxRecDepth 20000 in
set_option maxHeartbeats 16000000 in
theorem c_SnapAny (a b : Int) (f g : Bool) (l : List (Int × List Int)) (k : List Int) (p q : Int) (h : Bool) (y : List UInt8) : Contract Try.prog 5 [.agg [i64 a, i64 b, .sl f (srs l), .sl g (ints k)], .agg [i64 p, i64 q], .sl h (bys y)] (bo true) [] := by
  refine contract_of_awp (rs := [6]) Try.func5 rfl Try.ntmps5 (by simp) rfl fun E => ?_
  have hmin : (if (40 : Int) < (y.length : Int) then (40 : Int) else (y.length : Int)) = ((min 40 y.length : Nat) : Int) := by split <;> omega
  have hmi := mayI a b l
  have hy40 : (List.take (min 40 y.length) y).length = min 40 y.length := by simp
  have hy40' : min 40 y.length ≤ 40 := by omega
  have hyy : min 40 y.length ≤ y.length := by omega
  have hmy : List.take (min 40 y.length) (List.take (min 40 y.length) y) = List.take (min 40 y.length) y := List.take_of_length_le (by omega)
  (repeat (first | refine awp_seq ?_ | refine awp_block ?_ | ((first | refine awp_skip ?_ | refine awp_exit ?_ | refine awp_reg ttok ?_ | (refine awp_draw ttok ?dr_calm ?_; (case dr_calm => decide +kernel)) | refine awp_condM ?_); simp (maxSteps := 4000000) only [↓reduceIte, Nat.reduceLT, Nat.reduceEqDiff, reduceCtorEq, Nat.reduceAdd, Nat.reduceMul, Int.reduceLE, Int.reduceLT, Int.reduceToNat, Nat.reduceLeDiff, Nat.reduceSub, Int.reduceEq, Nat.reduceBEq, List.replicate, List.set, if_false, if_true, ne_eq, false_implies, implies_true, evD0, evD1, evD2, evD3, evD4, evD5, evD6, evT, tyA0, tyA1, tyA2, tyA3, tyA4, tyA5, tyA6, tyA7, tyA8, hmin, low1, hy40]; (repeat (with_reducible refine And.intro ?_ ?_; focus ((repeat' with_reducible apply And.intro) <;> (first | omega | with_reducible trivial | with_reducible assumption)))); (with_reducible first | refine awp_id ?_ | refine id_call ?_ | refine id_and ?_ | refine id_ex ?_ | refine id_all ?_ | refine id_le ?_))))
  refine awp_joinN (X := List UInt8) (fun S => mkS 82 [(3, .ptr 1000 0 0), (7, .own 2000 0 S.length)] [(1000, { sz := 4, rows := [[i64 a, i64 b, .sl f (srs l), .sl g (ints k)]], flat := false }), (2000, { sz := 1, rows := bys S })]) (fun S => S.length ≤ 1000) ?_ ?_
  · intro S hS
    have hSt : List.take S.length S = S := List.take_length
    (repeat (first | refine awp_seq ?_ | refine awp_block ?_ | ((first | refine awp_skip ?_ | refine awp_exit ?_ | refine awp_reg ttok ?_ | (refine awp_draw ttok ?dr_calm ?_; (case dr_calm => decide +kernel)) | refine awp_condM ?_); simp (maxSteps := 4000000) only [↓reduceIte, Nat.reduceLT, Nat.reduceEqDiff, reduceCtorEq, Nat.reduceAdd, Nat.reduceMul, Int.reduceLE, Int.reduceLT, Int.reduceToNat, Nat.reduceLeDiff, Nat.reduceSub, Int.reduceEq, Nat.reduceBEq, List.replicate, List.set, if_false, if_true, ne_eq, false_implies, implies_true, evD0, evD1, evD2, evD3, evD4, evD5, evD6, evT, tyA0, tyA1, tyA2, tyA3, tyA4, tyA5, tyA6, tyA7, tyA8, hSt]; (repeat (with_reducible refine And.intro ?_ ?_; focus ((repeat' with_reducible apply And.intro) <;> (first | omega | with_reducible trivial | with_reducible assumption)))); (with_reducible first | refine awp_id ?_ | refine id_call ?_ | refine id_and ?_ | refine id_ex ?_ | refine id_all ?_ | refine id_le ?_))))
    refine callVC_mk fnok22 (c_sGet codeGet_le false S (by omega)) rfl ?_
    cases hok : gtOk S
    · have hr : gtRes S = .tup [i64 0, .agg [i64 0, i64 0, .sl true [], .sl true []], bo false] := by rw [gtRes, hok]; rfl
      rw [hr]
      simp (maxSteps := 4000000) only [↓reduceIte, Nat.reduceLT, Nat.reduceEqDiff, reduceCtorEq, Nat.reduceAdd, Nat.reduceMul, Int.reduceLE, Int.reduceLT, Int.reduceToNat, Nat.reduceLeDiff, Nat.reduceSub, Int.reduceEq, Nat.reduceBEq, List.replicate, List.set, if_false, if_true, ne_eq, false_implies, implies_true, evD0, evD1, evD2, evD3, evD4, evD5, evD6, evT, tyA0, tyA1, tyA2, tyA3, tyA4, tyA5, tyA6, tyA7, tyA8]
      (repeat (with_reducible refine And.intro ?_ ?_; focus ((repeat' with_reducible apply And.intro) <;> (first | omega | with_reducible trivial | with_reducible assumption))))
      (repeat (first | refine awp_seq ?_ | refine awp_block ?_ | ((first | refine awp_skip ?_ | refine awp_exit ?_ | refine awp_reg ttok ?_ | (refine awp_draw ttok ?dr_calm ?_; (case dr_calm => decide +kernel)) | refine awp_condM ?_); simp (maxSteps := 4000000) only [↓reduceIte, Nat.reduceLT, Nat.reduceEqDiff, reduceCtorEq, Nat.reduceAdd, Nat.reduceMul, Int.reduceLE, Int.reduceLT, Int.reduceToNat, Nat.reduceLeDiff, Nat.reduceSub, Int.reduceEq, Nat.reduceBEq, List.replicate, List.set, if_false, if_true, ne_eq, false_implies, implies_true, evD0, evD1, evD2, evD3, evD4, evD5, evD6, evT, tyA0, tyA1, tyA2, tyA3, tyA4, tyA5, tyA6, tyA7, tyA8, show (!false) = true from rfl]; (repeat (with_reducible refine And.intro ?_ ?_; focus ((repeat' with_reducible apply And.intro) <;> (first | omega | with_reducible trivial | with_reducible assumption)))); (with_reducible first | refine awp_id ?_ | refine id_call ?_ | refine id_and ?_ | refine id_ex ?_ | refine id_all ?_ | refine id_le ?_))))
      refine callVC_scal fnok23 c_awake37 rfl ?_
      simp (maxSteps := 4000000) only [↓reduceIte, Nat.reduceLT, Nat.reduceEqDiff, reduceCtorEq, Nat.reduceAdd, Nat.reduceMul, Int.reduceLE, Int.reduceLT, Int.reduceToNat, Nat.reduceLeDiff, Nat.reduceSub, Int.reduceEq, Nat.reduceBEq, List.replicate, List.set, if_false, if_true, ne_eq, false_implies, implies_true, evD0, evD1, evD2, evD3, evD4, evD5, evD6, evT, tyA0, tyA1, tyA2, tyA3, tyA4, tyA5, tyA6, tyA7, tyA8]
      (repeat (with_reducible refine And.intro ?_ ?_; focus ((repeat' with_reducible apply And.intro) <;> (first | omega | with_reducible trivial | with_reducible assumption))))
      (repeat (first | refine awp_seq ?_ | refine awp_block ?_ | ((first | refine awp_skip ?_ | refine awp_exit ?_ | refine awp_reg ttok ?_ | (refine awp_draw ttok ?dr_calm ?_; (case dr_calm => decide +kernel)) | refine awp_condM ?_); simp (maxSteps := 4000000) only [↓reduceIte, Nat.reduceLT, Nat.reduceEqDiff, reduceCtorEq, Nat.reduceAdd, Nat.reduceMul, Int.reduceLE, Int.reduceLT, Int.reduceToNat, Nat.reduceLeDiff, Nat.reduceSub, Int.reduceEq, Nat.reduceBEq, List.replicate, List.set, if_false, if_true, ne_eq, false_implies, implies_true, evD0, evD1, evD2, evD3, evD4, evD5, evD6, evT, tyA0, tyA1, tyA2, tyA3, tyA4, tyA5, tyA6, tyA7, tyA8, show IntKind.i64.wrap (((0 : Nat) : Int) + 0) = 0 from rfl, show IntKind.i64.wrap (0 + 0) = 0 from rfl]; (repeat (with_reducible refine And.intro ?_ ?_; focus ((repeat' with_reducible apply And.intro) <;> (first | omega | with_reducible trivial | with_reducible assumption)))); (with_reducible first | refine awp_id ?_ | refine id_call ?_ | refine id_and ?_ | refine id_ex ?_ | refine id_all ?_ | refine id_le ?_))))
      exact awp_ret (ends_plain (.inr rfl) rfl (by simp (maxSteps := 4000000) only [↓reduceIte, Nat.reduceLT, Nat.reduceEqDiff, reduceCtorEq, Nat.reduceAdd, Nat.reduceMul, Int.reduceLE, Int.reduceLT, Int.reduceToNat, Nat.reduceLeDiff, Nat.reduceSub, Int.reduceEq, Nat.reduceBEq, List.replicate, List.set, if_false, if_true, ne_eq, false_implies, implies_true, evD0, evD1, evD2, evD3, evD4, evD5, evD6, evT, show IntKind.i64.wrap (((0 : Nat) : Int) + 0) = 0 from rfl, show IntKind.i64.wrap (0 + 0) = 0 from rfl]))
    · have hr : gtRes S = .tup [i64 (tkN S : Int), .agg [i64 (gtA S), i64 (gtB S), .sl false (srs (gtS S)), .sl false (ints (gtQ S))], bo true] := by rw [gtRes, hok]; rfl
      obtain ⟨hps, hms, hzs⟩ := put_get hok
      have hP := c_sPut (tkN S : Int) (gtA S) (gtB S) false false (gtS S) (gtQ S) hms (by omega) (by omega)
      rw [hps] at hP
      have hM := c_May (gtA S) (gtB S) false false (gtS S) (gtQ S)
      rw [hms] at hM
      rw [hr]
      simp (maxSteps := 4000000) only [↓reduceIte, Nat.reduceLT, Nat.reduceEqDiff, reduceCtorEq, Nat.reduceAdd, Nat.reduceMul, Int.reduceLE, Int.reduceLT, Int.reduceToNat, Nat.reduceLeDiff, Nat.reduceSub, Int.reduceEq, Nat.reduceBEq, List.replicate, List.set, if_false, if_true, ne_eq, false_implies, implies_true, evD0, evD1, evD2, evD3, evD4, evD5, evD6, evT, tyA0, tyA1, tyA2, tyA3, tyA4, tyA5, tyA6, tyA7, tyA8]
      (repeat (with_reducible refine And.intro ?_ ?_; focus ((repeat' with_reducible apply And.intro) <;> (first | omega | with_reducible trivial | with_reducible assumption))))
      (repeat (first | refine awp_seq ?_ | refine awp_block ?_ | ((first | refine awp_skip ?_ | refine awp_exit ?_ | refine awp_reg ttok ?_ | (refine awp_draw ttok ?dr_calm ?_; (case dr_calm => decide +kernel)) | refine awp_condM ?_); simp (maxSteps := 4000000) only [↓reduceIte, Nat.reduceLT, Nat.reduceEqDiff, reduceCtorEq, Nat.reduceAdd, Nat.reduceMul, Int.reduceLE, Int.reduceLT, Int.reduceToNat, Nat.reduceLeDiff, Nat.reduceSub, Int.reduceEq, Nat.reduceBEq, List.replicate, List.set, if_false, if_true, ne_eq, false_implies, implies_true, evD0, evD1, evD2, evD3, evD4, evD5, evD6, evT, tyA0, tyA1, tyA2, tyA3, tyA4, tyA5, tyA6, tyA7, tyA8, show (!true) = false from rfl]; (repeat (with_reducible refine And.intro ?_ ?_; focus ((repeat' with_reducible apply And.intro) <;> (first | omega | with_reducible trivial | with_reducible assumption)))); (with_reducible first | refine awp_id ?_ | refine id_call ?_ | refine id_and ?_ | refine id_ex ?_ | refine id_all ?_ | refine id_le ?_))))
      refine awp_drawG ttok ((0, some []) :: (1, none) :: (2, none) :: (3, none) :: (6, none) :: (7, none) :: (4, some [6, 7]) :: (5, none) :: (8, none) :: (9, none) :: (10, none) :: (11, none) :: (12, some []) :: (13, none) :: (14, none) :: []) ([]) ([]) (by decide +kernel) fun O hO => ?_; simp only [OpsAre, Nat.reduceAdd, and_true, List.toList_toArray, List.append_eq, List.cons_append, List.nil_append] at hO; simp (maxSteps := 4000000) only [↓reduceIte, Nat.reduceLT, Nat.reduceEqDiff, reduceCtorEq, Nat.reduceAdd, Nat.reduceMul, Int.reduceLE, Int.reduceLT, Int.reduceToNat, Nat.reduceLeDiff, Nat.reduceSub, Int.reduceEq, Nat.reduceBEq, List.replicate, List.set, if_false, if_true, ne_eq, false_implies, implies_true, evD0, evD1, evD2, evD3, evD4, evD5, evD6, evT, tyA0, tyA1, tyA2, tyA3, tyA4, tyA5, tyA6, tyA7, tyA8, hO, ]; (repeat (with_reducible refine And.intro ?_ ?_; focus ((repeat' with_reducible apply And.intro) <;> (first | omega | with_reducible trivial | with_reducible assumption))))
      refine callVC_scal fnok23 c_awake37 rfl ?_
      simp (maxSteps := 4000000) only [↓reduceIte, Nat.reduceLT, Nat.reduceEqDiff, reduceCtorEq, Nat.reduceAdd, Nat.reduceMul, Int.reduceLE, Int.reduceLT, Int.reduceToNat, Nat.reduceLeDiff, Nat.reduceSub, Int.reduceEq, Nat.reduceBEq, List.replicate, List.set, if_false, if_true, ne_eq, false_implies, implies_true, evD0, evD1, evD2, evD3, evD4, evD5, evD6, evT, tyA0, tyA1, tyA2, tyA3, tyA4, tyA5, tyA6, tyA7, tyA8, hO]
      (repeat (with_reducible refine And.intro ?_ ?_; focus ((repeat' with_reducible apply And.intro) <;> (first | omega | with_reducible trivial | with_reducible assumption))))
      refine callVC_mk fnok20 hP rfl ?_
      simp (maxSteps := 4000000) only [↓reduceIte, Nat.reduceLT, Nat.reduceEqDiff, reduceCtorEq, Nat.reduceAdd, Nat.reduceMul, Int.reduceLE, Int.reduceLT, Int.reduceToNat, Nat.reduceLeDiff, Nat.reduceSub, Int.reduceEq, Nat.reduceBEq, List.replicate, List.set, if_false, if_true, ne_eq, false_implies, implies_true, evD0, evD1, evD2, evD3, evD4, evD5, evD6, evT, tyA0, tyA1, tyA2, tyA3, tyA4, tyA5, tyA6, tyA7, tyA8, hO, hSt]
      (repeat (with_reducible refine And.intro ?_ ?_; focus ((repeat' with_reducible apply And.intro) <;> (first | omega | with_reducible trivial | with_reducible assumption))))
      refine callVC_scal fnok24 hM rfl ?_
      simp (maxSteps := 4000000) only [↓reduceIte, Nat.reduceLT, Nat.reduceEqDiff, reduceCtorEq, Nat.reduceAdd, Nat.reduceMul, Int.reduceLE, Int.reduceLT, Int.reduceToNat, Nat.reduceLeDiff, Nat.reduceSub, Int.reduceEq, Nat.reduceBEq, List.replicate, List.set, if_false, if_true, ne_eq, false_implies, implies_true, evD0, evD1, evD2, evD3, evD4, evD5, evD6, evT, tyA0, tyA1, tyA2, tyA3, tyA4, tyA5, tyA6, tyA7, tyA8, hO]
      (repeat (with_reducible refine And.intro ?_ ?_; focus ((repeat' with_reducible apply And.intro) <;> (first | omega | with_reducible trivial | with_reducible assumption))))
      clear hO
      (repeat (first | refine awp_seq ?_ | refine awp_block ?_ | ((first | refine awp_skip ?_ | refine awp_exit ?_ | refine awp_reg ttok ?_ | (refine awp_draw ttok ?dr_calm ?_; (case dr_calm => decide +kernel)) | refine awp_condM ?_); simp (maxSteps := 4000000) only [↓reduceIte, Nat.reduceLT, Nat.reduceEqDiff, reduceCtorEq, Nat.reduceAdd, Nat.reduceMul, Int.reduceLE, Int.reduceLT, Int.reduceToNat, Nat.reduceLeDiff, Nat.reduceSub, Int.reduceEq, Nat.reduceBEq, List.replicate, List.set, if_false, if_true, ne_eq, false_implies, implies_true, evD0, evD1, evD2, evD3, evD4, evD5, evD6, evT, tyA0, tyA1, tyA2, tyA3, tyA4, tyA5, tyA6, tyA7, tyA8]; (repeat (with_reducible refine And.intro ?_ ?_; focus ((repeat' with_reducible apply And.intro) <;> (first | omega | with_reducible trivial | with_reducible assumption)))); (with_reducible first | refine awp_id ?_ | refine id_call ?_ | refine id_and ?_ | refine id_ex ?_ | refine id_all ?_ | refine id_le ?_))))
      exact awp_ret (ends_plain (.inr rfl) rfl (by simp (maxSteps := 4000000) only [↓reduceIte, Nat.reduceLT, Nat.reduceEqDiff, reduceCtorEq, Nat.reduceAdd, Nat.reduceMul, Int.reduceLE, Int.reduceLT, Int.reduceToNat, Nat.reduceLeDiff, Nat.reduceSub, Int.reduceEq, Nat.reduceBEq, List.replicate, List.set, if_false, if_true, ne_eq, false_implies, implies_true, evD0, evD1, evD2, evD3, evD4, evD5, evD6, evT]))
  · cases h0 : ((lowB 1 p : Int) == 0)
    · (repeat (first | refine awp_seq ?_ | refine awp_block ?_ | ((first | refine awp_skip ?_ | refine awp_exit ?_ | refine awp_reg ttok ?_ | (refine awp_draw ttok ?dr_calm ?_; (case dr_calm => decide +kernel)) | refine awp_condM ?_); simp (maxSteps := 4000000) only [↓reduceIte, Nat.reduceLT, Nat.reduceEqDiff, reduceCtorEq, Nat.reduceAdd, Nat.reduceMul, Int.reduceLE, Int.reduceLT, Int.reduceToNat, Nat.reduceLeDiff, Nat.reduceSub, Int.reduceEq, Nat.reduceBEq, List.replicate, List.set, if_false, if_true, ne_eq, false_implies, implies_true, evD0, evD1, evD2, evD3, evD4, evD5, evD6, evT, tyA0, tyA1, tyA2, tyA3, tyA4, tyA5, tyA6, tyA7, tyA8, h0, joinN]; (repeat (with_reducible refine And.intro ?_ ?_; focus ((repeat' with_reducible apply And.intro) <;> (first | omega | with_reducible trivial | with_reducible assumption)))); (with_reducible first | refine awp_id ?_ | refine id_call ?_ | refine id_and ?_ | refine id_ex ?_ | refine id_all ?_ | refine id_le ?_))))
      refine ⟨List.take (min 40 y.length) y, by omega, mkS_le rfl ?_ ?_⟩
      · simp (maxSteps := 4000000) only [↓reduceIte, Nat.reduceLT, Nat.reduceEqDiff, reduceCtorEq, Nat.reduceAdd, Nat.reduceMul, Int.reduceLE, Int.reduceLT, Int.reduceToNat, Nat.reduceLeDiff, Nat.reduceSub, Int.reduceEq, Nat.reduceBEq, List.replicate, List.set, if_false, if_true, ne_eq, false_implies, implies_true, evD0, evD1, evD2, evD3, evD4, evD5, evD6, evT, hy40]
      · simp (maxSteps := 4000000) only [↓reduceIte, Nat.reduceLT, Nat.reduceEqDiff, reduceCtorEq, Nat.reduceAdd, Nat.reduceMul, Int.reduceLE, Int.reduceLT, Int.reduceToNat, Nat.reduceLeDiff, Nat.reduceSub, Int.reduceEq, Nat.reduceBEq, List.replicate, List.set, if_false, if_true, ne_eq, false_implies, implies_true, evD0, evD1, evD2, evD3, evD4, evD5, evD6, evT, hy40]
    · obtain ⟨hb1, hb2⟩ := snapNums_bd (z := 5) hmi (by decide)
      have hP := c_sPut 5 (lowB 65535 a : Int) (lowB 255 b : Int) false false (sentsI l 4) (takenI l 4) hmi (by decide) (by decide)
      have hts : List.take (min l.length 4) (sentsI l 4) = sentsI l 4 := List.take_of_length_le (by simp [sentsI]; omega)
      have htq : List.take (min l.length 4) (takenI l 4) = takenI l 4 := List.take_of_length_le (by simp [takenI]; omega)
      have hsl : (sentsI l 4).length = min l.length 4 := by simp [sentsI]; omega
      have hql : (takenI l 4).length = min l.length 4 := by simp [takenI]; omega
      generalize cps (snapNums 5 (lowB 65535 a : Int) (lowB 255 b : Int) (sentsI l 4) (takenI l 4)) = B at *
      have hB0 : ((B.length : Int) == 0) = false := beq_eq_false_iff_ne.2 (by omega)
      (repeat (first | refine awp_seq ?_ | refine awp_block ?_ | ((first | refine awp_skip ?_ | refine awp_exit ?_ | refine awp_reg ttok ?_ | (refine awp_draw ttok ?dr_calm ?_; (case dr_calm => decide +kernel)) | refine awp_condM ?_); simp (maxSteps := 4000000) only [↓reduceIte, Nat.reduceLT, Nat.reduceEqDiff, reduceCtorEq, Nat.reduceAdd, Nat.reduceMul, Int.reduceLE, Int.reduceLT, Int.reduceToNat, Nat.reduceLeDiff, Nat.reduceSub, Int.reduceEq, Nat.reduceBEq, List.replicate, List.set, if_false, if_true, ne_eq, false_implies, implies_true, evD0, evD1, evD2, evD3, evD4, evD5, evD6, evT, tyA0, tyA1, tyA2, tyA3, tyA4, tyA5, tyA6, tyA7, tyA8, h0]; (repeat (with_reducible refine And.intro ?_ ?_; focus ((repeat' with_reducible apply And.intro) <;> (first | omega | with_reducible trivial | with_reducible assumption)))); (with_reducible first | refine awp_id ?_ | refine id_call ?_ | refine id_and ?_ | refine id_ex ?_ | refine id_all ?_ | refine id_le ?_))))
      refine callVC_mk fnok21 (c_Image a b f g l k) rfl ?_
      simp (maxSteps := 4000000) only [↓reduceIte, Nat.reduceLT, Nat.reduceEqDiff, reduceCtorEq, Nat.reduceAdd, Nat.reduceMul, Int.reduceLE, Int.reduceLT, Int.reduceToNat, Nat.reduceLeDiff, Nat.reduceSub, Int.reduceEq, Nat.reduceBEq, List.replicate, List.set, if_false, if_true, ne_eq, false_implies, implies_true, evD0, evD1, evD2, evD3, evD4, evD5, evD6, evT, tyA0, tyA1, tyA2, tyA3, tyA4, tyA5, tyA6, tyA7, tyA8, srs_take, hts, htq, srs_len, hsl, hql]
      (repeat (with_reducible refine And.intro ?_ ?_; focus ((repeat' with_reducible apply And.intro) <;> (first | omega | with_reducible trivial | with_reducible assumption))))
      refine callVC_mk fnok20 hP rfl ?_
      simp (maxSteps := 4000000) only [↓reduceIte, Nat.reduceLT, Nat.reduceEqDiff, reduceCtorEq, Nat.reduceAdd, Nat.reduceMul, Int.reduceLE, Int.reduceLT, Int.reduceToNat, Nat.reduceLeDiff, Nat.reduceSub, Int.reduceEq, Nat.reduceBEq, List.replicate, List.set, if_false, if_true, ne_eq, false_implies, implies_true, evD0, evD1, evD2, evD3, evD4, evD5, evD6, evT, tyA0, tyA1, tyA2, tyA3, tyA4, tyA5, tyA6, tyA7, tyA8]
      (repeat (with_reducible refine And.intro ?_ ?_; focus ((repeat' with_reducible apply And.intro) <;> (first | omega | with_reducible trivial | with_reducible assumption))))
      (repeat (first | refine awp_seq ?_ | refine awp_block ?_ | ((first | refine awp_skip ?_ | refine awp_exit ?_ | refine awp_reg ttok ?_ | (refine awp_draw ttok ?dr_calm ?_; (case dr_calm => decide +kernel)) | refine awp_condM ?_); simp (maxSteps := 4000000) only [↓reduceIte, Nat.reduceLT, Nat.reduceEqDiff, reduceCtorEq, Nat.reduceAdd, Nat.reduceMul, Int.reduceLE, Int.reduceLT, Int.reduceToNat, Nat.reduceLeDiff, Nat.reduceSub, Int.reduceEq, Nat.reduceBEq, List.replicate, List.set, if_false, if_true, ne_eq, false_implies, implies_true, evD0, evD1, evD2, evD3, evD4, evD5, evD6, evT, tyA0, tyA1, tyA2, tyA3, tyA4, tyA5, tyA6, tyA7, tyA8, hB0]; (repeat (with_reducible refine And.intro ?_ ?_; focus ((repeat' with_reducible apply And.intro) <;> (first | omega | with_reducible trivial | with_reducible assumption)))); (with_reducible first | refine awp_id ?_ | refine id_call ?_ | refine id_and ?_ | refine id_ex ?_ | refine id_all ?_ | refine id_le ?_))))
      obtain ⟨Y, hY⟩ := u8_any q
      obtain ⟨j, hj, hjt⟩ : ∃ j : Nat, j < B.length ∧ Int.tmod ((lowB 65535 (p.fdiv (2 ^ min 1 IntKind.i64.bits)) : Nat) : Int) (B.length : Int) = (j : Int) := ⟨lowB 65535 (p.fdiv (2 ^ min 1 IntKind.i64.bits)) % B.length, Nat.mod_lt _ (by omega), rfl⟩
      have gj := bys_get hj
      refine awp_swap 2000 104002 ?_
      refine awp_drawG ttok ((0, none) :: (1, none) :: (2, none) :: (3, none) :: (4, none) :: (5, none) :: (6, none) :: (7, none) :: (8, none) :: (9, none) :: (10, none) :: (11, none) :: (12, none) :: (13, none) :: (14, none) :: (15, some []) :: []) ([]) ([]) (by decide +kernel) fun O hO => ?_; simp only [OpsAre, Nat.reduceAdd, and_true, List.toList_toArray, List.append_eq, List.cons_append, List.nil_append] at hO; simp (maxSteps := 4000000) only [↓reduceIte, Nat.reduceLT, Nat.reduceEqDiff, reduceCtorEq, Nat.reduceAdd, Nat.reduceMul, Int.reduceLE, Int.reduceLT, Int.reduceToNat, Nat.reduceLeDiff, Nat.reduceSub, Int.reduceEq, Nat.reduceBEq, List.replicate, List.set, if_false, if_true, ne_eq, false_implies, implies_true, evD0, evD1, evD2, evD3, evD4, evD5, evD6, evT, tyA0, tyA1, tyA2, tyA3, tyA4, tyA5, tyA6, tyA7, tyA8, hO, low65535, hjt, gj, hY, u8_xor, bys_set]; (repeat (with_reducible refine And.intro ?_ ?_; focus ((repeat' with_reducible apply And.intro) <;> (first | omega | with_reducible trivial | with_reducible assumption))))
      clear hO
      have hBl : (B.set j (B.getD j 0 ^^^ Y)).length = B.length := List.length_set
      refine Exists.intro (B.set j (B.getD j 0 ^^^ Y)) ⟨by omega, mkS_le rfl ?_ ?_⟩
      · simp (maxSteps := 4000000) only [↓reduceIte, Nat.reduceLT, Nat.reduceEqDiff, reduceCtorEq, Nat.reduceAdd, Nat.reduceMul, Int.reduceLE, Int.reduceLT, Int.reduceToNat, Nat.reduceLeDiff, Nat.reduceSub, Int.reduceEq, Nat.reduceBEq, List.replicate, List.set, if_false, if_true, ne_eq, false_implies, implies_true, evD0, evD1, evD2, evD3, evD4, evD5, evD6, evT, hBl]
      · simp (maxSteps := 4000000) only [↓reduceIte, Nat.reduceLT, Nat.reduceEqDiff, reduceCtorEq, Nat.reduceAdd, Nat.reduceMul, Int.reduceLE, Int.reduceLT, Int.reduceToNat, Nat.reduceLeDiff, Nat.reduceSub, Int.reduceEq, Nat.reduceBEq, List.replicate, List.set, if_false, if_true, ne_eq, false_implies, implies_true, evD0, evD1, evD2, evD3, evD4, evD5, evD6, evT, hBl]

end Go.Proofs.Ytfllndodnhmhkaa
