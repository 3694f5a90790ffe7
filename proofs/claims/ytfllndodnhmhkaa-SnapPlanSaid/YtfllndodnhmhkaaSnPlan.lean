/-
  The contract of the law SnapPlan.
-/
import Derived.Test.YtfllndodnhmhkaaSnPl
import Derived.Test.YtfllndodnhmhkaaSnAny
namespace Go.Proofs.Ytfllndodnhmhkaa
open Go.Ab
set_option linter.unusedSimpArgs false
set_option linter.unusedVariables false

theorem cps_small {z a b : Int} {l : List (Int × List Int)} {k : List Int} (hm : mayB a b l k = true) (hz : z ≤ 2147483647) (h4 : l.length ≤ 4) : (cps (snapNums z a b l k)).length ≤ 240 := by
  obtain ⟨hlk, h16, hA, hB, hS⟩ := mayB_true hm
  have ha := (okI_iff a).1 hA
  have hb := (okI_iff b).1 hB
  have h1 := cps_len (snapNums z a b l k) (sNums_bd hS hz ha.2 hb.2 h16 l.length (Nat.le_refl _))
  have h2 : (snapNums z a b l k).length ≤ 4 + 11 * l.length := sNums_ct hS l.length (Nat.le_refl _)
  omega

set_option maxRecDepth 20000 in
set_option maxHeartbeats 16000000 in
theorem c_SnapPlan (area gen a b : Int) (f g : Bool) (l : List (Int × List Int)) (k : List Int) : Contract Try.prog 9 [i64 area, i64 gen, .agg [i64 a, i64 b, .sl f (srs l), .sl g (ints k)]] (bo true) [] := by
  refine contract_of_awp (rs := [6]) Try.func9 rfl Try.ntmps9 (by simp) rfl fun E => ?_
  have hmi := mayI a b l
  have hts : List.take (min l.length 4) (sentsI l 4) = sentsI l 4 := List.take_of_length_le (by simp [sentsI]; omega)
  have htq : List.take (min l.length 4) (takenI l 4) = takenI l 4 := List.take_of_length_le (by simp [takenI]; omega)
  have hsl : (sentsI l 4).length = min l.length 4 := by simp [sentsI]; omega
  have hql : (takenI l 4).length = min l.length 4 := by simp [takenI]; omega
  have hz := lowB_le 65535 gen (by decide)
  have hmax : (if (0 : Int) > area then (0 : Int) else area) = (area.toNat : Int) := by split <;> omega
  obtain ⟨A, hA⟩ : ∃ A, A = min area.toNat 1 := ⟨_, rfl⟩
  have hmin : (if (1 : Int) < (area.toNat : Int) then (1 : Int) else (area.toNat : Int)) = (A : Int) := by omega
  have hA1 : A ≤ 1 := by omega
  (repeat (first | refine awp_seq ?_ | refine awp_block ?_ | ((first | refine awp_skip ?_ | refine awp_exit ?_ | refine awp_reg ttok ?_ | (refine awp_draw ttok ?dr_calm ?_; (case dr_calm => decide +kernel)) | refine awp_condM ?_); simp (maxSteps := 4000000) only [↓reduceIte, Nat.reduceLT, Nat.reduceEqDiff, reduceCtorEq, Nat.reduceAdd, Nat.reduceMul, Int.reduceLE, Int.reduceLT, Int.reduceToNat, Nat.reduceLeDiff, Nat.reduceSub, Int.reduceEq, Nat.reduceBEq, List.replicate, List.set, if_false, if_true, ne_eq, false_implies, implies_true, evD0, evD1, evD2, evD3, evD4, evD5, evD6, evT, tyA0, tyA1, tyA2, tyA3, tyA4, tyA5, tyA6, tyA7, tyA8]; (repeat (with_reducible refine And.intro ?_ ?_; focus ((repeat' with_reducible apply And.intro) <;> (first | omega | with_reducible trivial | with_reducible assumption)))); (with_reducible first | refine awp_id ?_ | refine id_call ?_ | refine id_and ?_ | refine id_ex ?_ | refine id_all ?_ | refine id_le ?_))))
  refine callVC_mk fnok21 (c_Image a b f g l k) rfl ?_
  simp (maxSteps := 4000000) only [↓reduceIte, Nat.reduceLT, Nat.reduceEqDiff, reduceCtorEq, Nat.reduceAdd, Nat.reduceMul, Int.reduceLE, Int.reduceLT, Int.reduceToNat, Nat.reduceLeDiff, Nat.reduceSub, Int.reduceEq, Nat.reduceBEq, List.replicate, List.set, if_false, if_true, ne_eq, false_implies, implies_true, evD0, evD1, evD2, evD3, evD4, evD5, evD6, evT, tyA0, tyA1, tyA2, tyA3, tyA4, tyA5, tyA6, tyA7, tyA8, srs_take, hts, htq, srs_len, hsl, hql, low65535, hmax, hmin]
  (repeat (with_reducible refine And.intro ?_ ?_; focus ((repeat' with_reducible apply And.intro) <;> (first | omega | with_reducible trivial | with_reducible assumption))))
  obtain ⟨n, hn⟩ : ∃ n, n = min l.length 4 := ⟨_, rfl⟩
  have hn4 : n ≤ 4 := by omega
  rw [← hn] at hts htq hsl hql ⊢
  generalize lowB 65535 a = A0 at *
  generalize lowB 255 b = B0 at *
  generalize sentsI l 4 = S at *
  generalize takenI l 4 = Q at *
  generalize lowB 65535 gen = z at *
  obtain ⟨G, hG⟩ : ∃ G : BitVec 32, G = BitVec.ofNat 32 z := ⟨_, rfl⟩
  have hwg : IntKind.u32.wrap (z : Int) = (G.toNat : Int) := by rw [wrap_u32, hG]
  obtain ⟨hb1, hb2⟩ := snapNums_bd (z := (z : Int)) hmi (by omega)
  have hb3 := cps_small (z := (z : Int)) hmi (by omega) (by omega)
  have hPut := c_sPut (z : Int) (A0 : Int) (B0 : Int) false false S Q hmi (by omega) (by omega)
  have hPl := c_Plan area (z : Int) (A0 : Int) (B0 : Int) A hA G hwg false false S Q hmi (by omega) (by omega) _ rfl (by omega) (by omega)
  generalize cps (snapNums (z : Int) (A0 : Int) (B0 : Int) S Q) = P at *
  have hPt : List.take P.length P = P := List.take_length
  have hFl := frameOf_len P
  have hadd := c_jAddYes false [] P A 0 ((0 + (P.length + 7) + 31) / 32 - 0) hA1 (by omega) (by omega) (by simp; omega) rfl rfl
  rw [List.nil_append] at hadd
  have hmz0 : mz [] = zer 992 := rfl
  rw [hmz0] at hadd
  have hml : (mz (frameOf P)).length = 992 := mz_len (by omega)
  have hmt : List.take 992 (mz (frameOf P)) = mz (frameOf P) := List.take_of_length_le (by omega)
  have hW := c_jWhole (mz (frameOf P)) A (frameOf P).length hml hA1
  have hAr := c_jArea (mz (frameOf P)) (A : Int) ((frameOf P).length : Int)
  have hTl := c_jTail (mz (frameOf P)) (A : Int) ((frameOf P).length : Int)
  have hHd := c_Head (z : Int) G hwg
  have hpl := planW_len A G P
  have hbl := blks_len A (mz (frameOf P)) 0 31
  have hgP : ∀ j, j < 31 → (planW A G P).getD j (0, []) = (blks A (mz (frameOf P)) 0 31).getD j (0, []) := fun j hj => by
    simp [planW, List.getD, List.getElem?_append_left (show j < (blks A (mz (frameOf P)) 0 31).length by omega)]
  have hg31 : (planW A G P).getD 31 (0, []) = (32 * A, headB G) := by
    simp [planW, List.getD, List.getElem?_append_right (show (blks A (mz (frameOf P)) 0 31).length ≤ 31 by omega), hbl]
  have hgb : ∀ j, j < 31 → (((blks A (mz (frameOf P)) 0 31).getD j (0, [])).1 : Int) = ((32 * A + 1 + j : Nat) : Int) ∧ ((blks A (mz (frameOf P)) 0 31).getD j (0, [])).2.length = 32 := fun j hj => by
    rw [blks_get A (mz (frameOf P)) 0 hj]
    exact ⟨by simp only; omega, blkB_len hml (by omega)⟩
  (repeat (first | refine awp_seq ?_ | refine awp_block ?_ | ((first | refine awp_skip ?_ | refine awp_exit ?_ | refine awp_reg ttok ?_ | (refine awp_draw ttok ?dr_calm ?_; (case dr_calm => decide +kernel)) | refine awp_condM ?_); simp (maxSteps := 4000000) only [↓reduceIte, Nat.reduceLT, Nat.reduceEqDiff, reduceCtorEq, Nat.reduceAdd, Nat.reduceMul, Int.reduceLE, Int.reduceLT, Int.reduceToNat, Nat.reduceLeDiff, Nat.reduceSub, Int.reduceEq, Nat.reduceBEq, List.replicate, List.set, if_false, if_true, ne_eq, false_implies, implies_true, evD0, evD1, evD2, evD3, evD4, evD5, evD6, evT, tyA0, tyA1, tyA2, tyA3, tyA4, tyA5, tyA6, tyA7, tyA8, srs_take, hts, htq, srs_len, hsl, hql]; (repeat (with_reducible refine And.intro ?_ ?_; focus ((repeat' with_reducible apply And.intro) <;> (first | omega | with_reducible trivial | with_reducible assumption)))); (with_reducible first | refine awp_id ?_ | refine id_call ?_ | refine id_and ?_ | refine id_ex ?_ | refine id_all ?_ | refine id_le ?_))))
  refine callVC_mk fnok33 hPl rfl ?_
  simp (maxSteps := 4000000) only [↓reduceIte, Nat.reduceLT, Nat.reduceEqDiff, reduceCtorEq, Nat.reduceAdd, Nat.reduceMul, Int.reduceLE, Int.reduceLT, Int.reduceToNat, Nat.reduceLeDiff, Nat.reduceSub, Int.reduceEq, Nat.reduceBEq, List.replicate, List.set, if_false, if_true, ne_eq, false_implies, implies_true, evD0, evD1, evD2, evD3, evD4, evD5, evD6, evT, tyA0, tyA1, tyA2, tyA3, tyA4, tyA5, tyA6, tyA7, tyA8]
  (repeat (with_reducible refine And.intro ?_ ?_; focus ((repeat' with_reducible apply And.intro) <;> (first | omega | with_reducible trivial | with_reducible assumption))))
  (repeat (first | refine awp_seq ?_ | refine awp_block ?_ | ((first | refine awp_skip ?_ | refine awp_exit ?_ | refine awp_reg ttok ?_ | (refine awp_draw ttok ?dr_calm ?_; (case dr_calm => decide +kernel)) | refine awp_condM ?_); simp (maxSteps := 4000000) only [↓reduceIte, Nat.reduceLT, Nat.reduceEqDiff, reduceCtorEq, Nat.reduceAdd, Nat.reduceMul, Int.reduceLE, Int.reduceLT, Int.reduceToNat, Nat.reduceLeDiff, Nat.reduceSub, Int.reduceEq, Nat.reduceBEq, List.replicate, List.set, if_false, if_true, ne_eq, false_implies, implies_true, evD0, evD1, evD2, evD3, evD4, evD5, evD6, evT, tyA0, tyA1, tyA2, tyA3, tyA4, tyA5, tyA6, tyA7, tyA8]; (repeat (with_reducible refine And.intro ?_ ?_; focus ((repeat' with_reducible apply And.intro) <;> (first | omega | with_reducible trivial | with_reducible assumption)))); (with_reducible first | refine awp_id ?_ | refine id_call ?_ | refine id_and ?_ | refine id_ex ?_ | refine id_all ?_ | refine id_le ?_))))
  refine callVC_mk fnok10 (c_jNew (A : Int) A (by omega)) rfl ?_
  simp (maxSteps := 4000000) only [↓reduceIte, Nat.reduceLT, Nat.reduceEqDiff, reduceCtorEq, Nat.reduceAdd, Nat.reduceMul, Int.reduceLE, Int.reduceLT, Int.reduceToNat, Nat.reduceLeDiff, Nat.reduceSub, Int.reduceEq, Nat.reduceBEq, List.replicate, List.set, if_false, if_true, ne_eq, false_implies, implies_true, evD0, evD1, evD2, evD3, evD4, evD5, evD6, evT, tyA0, tyA1, tyA2, tyA3, tyA4, tyA5, tyA6, tyA7, tyA8]
  (repeat (with_reducible refine And.intro ?_ ?_; focus ((repeat' with_reducible apply And.intro) <;> (first | omega | with_reducible trivial | with_reducible assumption))))
  (repeat (first | refine awp_seq ?_ | refine awp_block ?_ | ((first | refine awp_skip ?_ | refine awp_exit ?_ | refine awp_reg ttok ?_ | (refine awp_draw ttok ?dr_calm ?_; (case dr_calm => decide +kernel)) | refine awp_condM ?_); simp (maxSteps := 4000000) only [↓reduceIte, Nat.reduceLT, Nat.reduceEqDiff, reduceCtorEq, Nat.reduceAdd, Nat.reduceMul, Int.reduceLE, Int.reduceLT, Int.reduceToNat, Nat.reduceLeDiff, Nat.reduceSub, Int.reduceEq, Nat.reduceBEq, List.replicate, List.set, if_false, if_true, ne_eq, false_implies, implies_true, evD0, evD1, evD2, evD3, evD4, evD5, evD6, evT, tyA0, tyA1, tyA2, tyA3, tyA4, tyA5, tyA6, tyA7, tyA8, srs_take, hts, htq, srs_len, hsl, hql]; (repeat (with_reducible refine And.intro ?_ ?_; focus ((repeat' with_reducible apply And.intro) <;> (first | omega | with_reducible trivial | with_reducible assumption)))); (with_reducible first | refine awp_id ?_ | refine id_call ?_ | refine id_and ?_ | refine id_ex ?_ | refine id_all ?_ | refine id_le ?_))))
  refine callVC_mk fnok20 hPut rfl ?_
  simp (maxSteps := 4000000) only [↓reduceIte, Nat.reduceLT, Nat.reduceEqDiff, reduceCtorEq, Nat.reduceAdd, Nat.reduceMul, Int.reduceLE, Int.reduceLT, Int.reduceToNat, Nat.reduceLeDiff, Nat.reduceSub, Int.reduceEq, Nat.reduceBEq, List.replicate, List.set, if_false, if_true, ne_eq, false_implies, implies_true, evD0, evD1, evD2, evD3, evD4, evD5, evD6, evT, tyA0, tyA1, tyA2, tyA3, tyA4, tyA5, tyA6, tyA7, tyA8]
  (repeat (with_reducible refine And.intro ?_ ?_; focus ((repeat' with_reducible apply And.intro) <;> (first | omega | with_reducible trivial | with_reducible assumption))))
  refine callVC_M [104001, 104002] fnok12 hadd (by simp (maxSteps := 4000000) only [↓reduceIte, Nat.reduceLT, Nat.reduceEqDiff, reduceCtorEq, Nat.reduceAdd, Nat.reduceMul, Int.reduceLE, Int.reduceLT, Int.reduceToNat, Nat.reduceLeDiff, Nat.reduceSub, Int.reduceEq, Nat.reduceBEq, List.replicate, List.set, if_false, if_true, ne_eq, false_implies, implies_true, evD0, evD1, evD2, evD3, evD4, evD5, evD6, evT, hPt]; rfl) (by simp (maxSteps := 4000000) only [↓reduceIte, Nat.reduceLT, Nat.reduceEqDiff, reduceCtorEq, Nat.reduceAdd, Nat.reduceMul, Int.reduceLE, Int.reduceLT, Int.reduceToNat, Nat.reduceLeDiff, Nat.reduceSub, Int.reduceEq, Nat.reduceBEq, List.replicate, List.set, if_false, if_true, ne_eq, false_implies, implies_true, evD0, evD1, evD2, evD3, evD4, evD5, evD6, evT]; rfl) ?_
  simp (maxSteps := 4000000) only [↓reduceIte, Nat.reduceLT, Nat.reduceEqDiff, reduceCtorEq, Nat.reduceAdd, Nat.reduceMul, Int.reduceLE, Int.reduceLT, Int.reduceToNat, Nat.reduceLeDiff, Nat.reduceSub, Int.reduceEq, Nat.reduceBEq, List.replicate, List.set, if_false, if_true, ne_eq, false_implies, implies_true, evD0, evD1, evD2, evD3, evD4, evD5, evD6, evT, tyA0, tyA1, tyA2, tyA3, tyA4, tyA5, tyA6, tyA7, tyA8, hPt]
  (repeat (with_reducible refine And.intro ?_ ?_; focus ((repeat' with_reducible apply And.intro) <;> (first | omega | with_reducible trivial | with_reducible assumption))))
  (repeat (first | refine awp_seq ?_ | refine awp_block ?_ | ((first | refine awp_skip ?_ | refine awp_exit ?_ | refine awp_reg ttok ?_ | (refine awp_draw ttok ?dr_calm ?_; (case dr_calm => decide +kernel)) | refine awp_condM ?_); simp (maxSteps := 4000000) only [↓reduceIte, Nat.reduceLT, Nat.reduceEqDiff, reduceCtorEq, Nat.reduceAdd, Nat.reduceMul, Int.reduceLE, Int.reduceLT, Int.reduceToNat, Nat.reduceLeDiff, Nat.reduceSub, Int.reduceEq, Nat.reduceBEq, List.replicate, List.set, if_false, if_true, ne_eq, false_implies, implies_true, evD0, evD1, evD2, evD3, evD4, evD5, evD6, evT, tyA0, tyA1, tyA2, tyA3, tyA4, tyA5, tyA6, tyA7, tyA8, hml, hmt]; (repeat (with_reducible refine And.intro ?_ ?_; focus ((repeat' with_reducible apply And.intro) <;> (first | omega | with_reducible trivial | with_reducible assumption)))); (with_reducible first | refine awp_id ?_ | refine id_call ?_ | refine id_and ?_ | refine id_ex ?_ | refine id_all ?_ | refine id_le ?_))))
  refine callVC_mk fnok15 hW rfl ?_
  have kt : (!true) = false := rfl
  have k32 : (((32 : Nat) : Int) != 32) = false := rfl
  have k31 : (((31 : Nat) : Int) != 31) = false := rfl
  simp (maxSteps := 4000000) only [↓reduceIte, Nat.reduceLT, Nat.reduceEqDiff, reduceCtorEq, Nat.reduceAdd, Nat.reduceMul, Int.reduceLE, Int.reduceLT, Int.reduceToNat, Nat.reduceLeDiff, Nat.reduceSub, Int.reduceEq, Nat.reduceBEq, List.replicate, List.set, if_false, if_true, ne_eq, false_implies, implies_true, evD0, evD1, evD2, evD3, evD4, evD5, evD6, evT, tyA0, tyA1, tyA2, tyA3, tyA4, tyA5, tyA6, tyA7, tyA8, hml, hmt, kt, k32, k31]
  (repeat (with_reducible refine And.intro ?_ ?_; focus ((repeat' with_reducible apply And.intro) <;> (first | omega | with_reducible trivial | with_reducible assumption))))
  (repeat (first | refine awp_seq ?_ | refine awp_block ?_ | ((first | refine awp_skip ?_ | refine awp_exit ?_ | refine awp_reg ttok ?_ | (refine awp_draw ttok ?dr_calm ?_; (case dr_calm => decide +kernel)) | refine awp_condM ?_); simp (maxSteps := 4000000) only [↓reduceIte, Nat.reduceLT, Nat.reduceEqDiff, reduceCtorEq, Nat.reduceAdd, Nat.reduceMul, Int.reduceLE, Int.reduceLT, Int.reduceToNat, Nat.reduceLeDiff, Nat.reduceSub, Int.reduceEq, Nat.reduceBEq, List.replicate, List.set, if_false, if_true, ne_eq, false_implies, implies_true, evD0, evD1, evD2, evD3, evD4, evD5, evD6, evT, tyA0, tyA1, tyA2, tyA3, tyA4, tyA5, tyA6, tyA7, tyA8, hml, hmt, kt, k32, k31]; (repeat (with_reducible refine And.intro ?_ ?_; focus ((repeat' with_reducible apply And.intro) <;> (first | omega | with_reducible trivial | with_reducible assumption)))); (with_reducible first | refine awp_id ?_ | refine id_call ?_ | refine id_and ?_ | refine id_ex ?_ | refine id_all ?_ | refine id_le ?_))))
  refine callVC_scal fnok16 hAr rfl ?_
  simp (maxSteps := 4000000) only [↓reduceIte, Nat.reduceLT, Nat.reduceEqDiff, reduceCtorEq, Nat.reduceAdd, Nat.reduceMul, Int.reduceLE, Int.reduceLT, Int.reduceToNat, Nat.reduceLeDiff, Nat.reduceSub, Int.reduceEq, Nat.reduceBEq, List.replicate, List.set, if_false, if_true, ne_eq, false_implies, implies_true, evD0, evD1, evD2, evD3, evD4, evD5, evD6, evT, tyA0, tyA1, tyA2, tyA3, tyA4, tyA5, tyA6, tyA7, tyA8, hml, hmt, bne_self_eq_false]
  (repeat (with_reducible refine And.intro ?_ ?_; focus ((repeat' with_reducible apply And.intro) <;> (first | omega | with_reducible trivial | with_reducible assumption))))
  refine callVC_scal fnok13 hTl rfl ?_
  simp (maxSteps := 4000000) only [↓reduceIte, Nat.reduceLT, Nat.reduceEqDiff, reduceCtorEq, Nat.reduceAdd, Nat.reduceMul, Int.reduceLE, Int.reduceLT, Int.reduceToNat, Nat.reduceLeDiff, Nat.reduceSub, Int.reduceEq, Nat.reduceBEq, List.replicate, List.set, if_false, if_true, ne_eq, false_implies, implies_true, evD0, evD1, evD2, evD3, evD4, evD5, evD6, evT, tyA0, tyA1, tyA2, tyA3, tyA4, tyA5, tyA6, tyA7, tyA8, hml, hmt, bne_self_eq_false]
  (repeat (with_reducible refine And.intro ?_ ?_; focus ((repeat' with_reducible apply And.intro) <;> (first | omega | with_reducible trivial | with_reducible assumption))))
  refine callVC_scal fnok13 hTl rfl ?_
  simp (maxSteps := 4000000) only [↓reduceIte, Nat.reduceLT, Nat.reduceEqDiff, reduceCtorEq, Nat.reduceAdd, Nat.reduceMul, Int.reduceLE, Int.reduceLT, Int.reduceToNat, Nat.reduceLeDiff, Nat.reduceSub, Int.reduceEq, Nat.reduceBEq, List.replicate, List.set, if_false, if_true, ne_eq, false_implies, implies_true, evD0, evD1, evD2, evD3, evD4, evD5, evD6, evT, tyA0, tyA1, tyA2, tyA3, tyA4, tyA5, tyA6, tyA7, tyA8, hml, hmt, bne_self_eq_false]
  (repeat (with_reducible refine And.intro ?_ ?_; focus ((repeat' with_reducible apply And.intro) <;> (first | omega | with_reducible trivial | with_reducible assumption))))
  (repeat (first | refine awp_seq ?_ | refine awp_block ?_ | ((first | refine awp_skip ?_ | refine awp_exit ?_ | refine awp_reg ttok ?_ | (refine awp_draw ttok ?dr_calm ?_; (case dr_calm => decide +kernel)) | refine awp_condM ?_); simp (maxSteps := 4000000) only [↓reduceIte, Nat.reduceLT, Nat.reduceEqDiff, reduceCtorEq, Nat.reduceAdd, Nat.reduceMul, Int.reduceLE, Int.reduceLT, Int.reduceToNat, Nat.reduceLeDiff, Nat.reduceSub, Int.reduceEq, Nat.reduceBEq, List.replicate, List.set, if_false, if_true, ne_eq, false_implies, implies_true, evD0, evD1, evD2, evD3, evD4, evD5, evD6, evT, tyA0, tyA1, tyA2, tyA3, tyA4, tyA5, tyA6, tyA7, tyA8]; (repeat (with_reducible refine And.intro ?_ ?_; focus ((repeat' with_reducible apply And.intro) <;> (first | omega | with_reducible trivial | with_reducible assumption)))); (with_reducible first | refine awp_id ?_ | refine id_call ?_ | refine id_and ?_ | refine id_ex ?_ | refine id_all ?_ | refine id_le ?_))))
  refine awp_at 138 [(8, _), (9, _), (10, _), (16, _), (17, _)] [(103003, _), (106001, _)] rfl (by (first | simp (maxSteps := 4000000) only [↓reduceIte, Nat.reduceLT, Nat.reduceEqDiff, reduceCtorEq, Nat.reduceAdd, Nat.reduceMul, Int.reduceLE, Int.reduceLT, Int.reduceToNat, Nat.reduceLeDiff, Nat.reduceSub, Int.reduceEq, Nat.reduceBEq, List.replicate, List.set, if_false, if_true, ne_eq, false_implies, implies_true, evD0, evD1, evD2, evD3, evD4, evD5, evD6, evT] | skip); exact ⟨rfl, rfl, rfl, rfl, rfl⟩) (by (first | simp (maxSteps := 4000000) only [↓reduceIte, Nat.reduceLT, Nat.reduceEqDiff, reduceCtorEq, Nat.reduceAdd, Nat.reduceMul, Int.reduceLE, Int.reduceLT, Int.reduceToNat, Nat.reduceLeDiff, Nat.reduceSub, Int.reduceEq, Nat.reduceBEq, List.replicate, List.set, if_false, if_true, ne_eq, false_implies, implies_true, evD0, evD1, evD2, evD3, evD4, evD5, evD6, evT] | skip); exact ⟨rfl, rfl⟩) ?_
  refine awp_loop (X := Nat) (fun j => mkS 138 [(8, i64 z), (9, i64 A), (10, .own 103003 0 32), (16, .own 106001 0 31), (17, i64 j)] [(103003, { sz := 2, rows := wrs (planW A G P) }), (106001, { sz := 2, rows := wrs (blks A (mz (frameOf P)) 0 31) })]) (fun j => j ≤ 31) (fun j => 31 - j) 0 (by omega) (mkS_le rfl ?_ ?_) ?_
  · simp (maxSteps := 4000000) only [↓reduceIte, Nat.reduceLT, Nat.reduceEqDiff, reduceCtorEq, Nat.reduceAdd, Nat.reduceMul, Int.reduceLE, Int.reduceLT, Int.reduceToNat, Nat.reduceLeDiff, Nat.reduceSub, Int.reduceEq, Nat.reduceBEq, List.replicate, List.set, if_false, if_true, ne_eq, false_implies, implies_true, evD0, evD1, evD2, evD3, evD4, evD5, evD6, evT]
    try rfl
  · simp (maxSteps := 4000000) only [↓reduceIte, Nat.reduceLT, Nat.reduceEqDiff, reduceCtorEq, Nat.reduceAdd, Nat.reduceMul, Int.reduceLE, Int.reduceLT, Int.reduceToNat, Nat.reduceLeDiff, Nat.reduceSub, Int.reduceEq, Nat.reduceBEq, List.replicate, List.set, if_false, if_true, ne_eq, false_implies, implies_true, evD0, evD1, evD2, evD3, evD4, evD5, evD6, evT]
    try rfl
  intro j hj
  by_cases hlt : j < 31
  · have d1 : decide ((j : Int) < 31) = true := by simp; omega
    have g1 := wrs_get (l := planW A G P) (i := j) (by omega)
    have g2 := wrs_get (l := blks A (mz (frameOf P)) 0 31) (i := j) (by omega)
    rw [hgP j hlt] at g1
    have hw : IntKind.i64.wrap ((j : Int) + 1) = ((j + 1 : Nat) : Int) := i64_in (by omega) (by omega)
    have hb := (hgb j hlt).2
    generalize (blks A (mz (frameOf P)) 0 31).getD j (0, []) = w at *
    (repeat (first | refine awp_seq ?_ | refine awp_block ?_ | ((first | refine awp_skip ?_ | refine awp_exit ?_ | refine awp_reg ttok ?_ | (refine awp_draw ttok ?dr_calm ?_; (case dr_calm => decide +kernel)) | refine awp_condM ?_); simp (maxSteps := 4000000) only [↓reduceIte, Nat.reduceLT, Nat.reduceEqDiff, reduceCtorEq, Nat.reduceAdd, Nat.reduceMul, Int.reduceLE, Int.reduceLT, Int.reduceToNat, Nat.reduceLeDiff, Nat.reduceSub, Int.reduceEq, Nat.reduceBEq, List.replicate, List.set, if_false, if_true, ne_eq, false_implies, implies_true, evD0, evD1, evD2, evD3, evD4, evD5, evD6, evT, tyA0, tyA1, tyA2, tyA3, tyA4, tyA5, tyA6, tyA7, tyA8, d1, g1, g2, wrs_len, hpl, hbl, bne_self_eq_false, hw]; (repeat (with_reducible refine And.intro ?_ ?_; focus ((repeat' with_reducible apply And.intro) <;> (first | omega | with_reducible trivial | with_reducible assumption)))); (with_reducible first | refine awp_id ?_ | refine id_call ?_ | refine id_and ?_ | refine id_ex ?_ | refine id_all ?_ | refine id_le ?_))))
    refine ⟨j + 1, by omega, by omega, mkS_le rfl ?_ ?_⟩
    · simp (maxSteps := 4000000) only [↓reduceIte, Nat.reduceLT, Nat.reduceEqDiff, reduceCtorEq, Nat.reduceAdd, Nat.reduceMul, Int.reduceLE, Int.reduceLT, Int.reduceToNat, Nat.reduceLeDiff, Nat.reduceSub, Int.reduceEq, Nat.reduceBEq, List.replicate, List.set, if_false, if_true, ne_eq, false_implies, implies_true, evD0, evD1, evD2, evD3, evD4, evD5, evD6, evT]
    · simp (maxSteps := 4000000) only [↓reduceIte, Nat.reduceLT, Nat.reduceEqDiff, reduceCtorEq, Nat.reduceAdd, Nat.reduceMul, Int.reduceLE, Int.reduceLT, Int.reduceToNat, Nat.reduceLeDiff, Nat.reduceSub, Int.reduceEq, Nat.reduceBEq, List.replicate, List.set, if_false, if_true, ne_eq, false_implies, implies_true, evD0, evD1, evD2, evD3, evD4, evD5, evD6, evT]
  · have d1 : decide ((j : Int) < 31) = false := by simp; omega
    have g1 := wrs_get (l := planW A G P) (i := 31) (by omega)
    rw [hg31] at g1
    have kf : (!false) = true := rfl
    have hw32 : IntKind.i64.wrap (32 * (A : Int)) = ((32 * A : Nat) : Int) := by rw [i64_in (by omega) (by omega)]; omega
    have hm1 : mayB (-1) 0 [] [] = false := by decide
    have hhl := headB_len G
    have hht : List.take 32 (headB G) = headB G := List.take_of_length_le (by omega)
    (repeat (first | refine awp_seq ?_ | refine awp_block ?_ | ((first | refine awp_skip ?_ | refine awp_exit ?_ | refine awp_reg ttok ?_ | (refine awp_draw ttok ?dr_calm ?_; (case dr_calm => decide +kernel)) | refine awp_condM ?_); simp (maxSteps := 4000000) only [↓reduceIte, Nat.reduceLT, Nat.reduceEqDiff, reduceCtorEq, Nat.reduceAdd, Nat.reduceMul, Int.reduceLE, Int.reduceLT, Int.reduceToNat, Nat.reduceLeDiff, Nat.reduceSub, Int.reduceEq, Nat.reduceBEq, List.replicate, List.set, if_false, if_true, ne_eq, false_implies, implies_true, evD0, evD1, evD2, evD3, evD4, evD5, evD6, evT, tyA0, tyA1, tyA2, tyA3, tyA4, tyA5, tyA6, tyA7, tyA8, d1]; (repeat (with_reducible refine And.intro ?_ ?_; focus ((repeat' with_reducible apply And.intro) <;> (first | omega | with_reducible trivial | with_reducible assumption)))); (with_reducible first | refine awp_id ?_ | refine id_call ?_ | refine id_and ?_ | refine id_ex ?_ | refine id_all ?_ | refine id_le ?_))))
    refine callVC_mk fnok33 (c_PlanNo 0 1 (-1) 0 0 rfl true true [] [] hm1) rfl ?_
    simp (maxSteps := 4000000) only [↓reduceIte, Nat.reduceLT, Nat.reduceEqDiff, reduceCtorEq, Nat.reduceAdd, Nat.reduceMul, Int.reduceLE, Int.reduceLT, Int.reduceToNat, Nat.reduceLeDiff, Nat.reduceSub, Int.reduceEq, Nat.reduceBEq, List.replicate, List.set, if_false, if_true, ne_eq, false_implies, implies_true, evD0, evD1, evD2, evD3, evD4, evD5, evD6, evT, tyA0, tyA1, tyA2, tyA3, tyA4, tyA5, tyA6, tyA7, tyA8]
    (repeat (with_reducible refine And.intro ?_ ?_; focus ((repeat' with_reducible apply And.intro) <;> (first | omega | with_reducible trivial | with_reducible assumption))))
    (repeat (first | refine awp_seq ?_ | refine awp_block ?_ | ((first | refine awp_skip ?_ | refine awp_exit ?_ | refine awp_reg ttok ?_ | (refine awp_draw ttok ?dr_calm ?_; (case dr_calm => decide +kernel)) | refine awp_condM ?_); simp (maxSteps := 4000000) only [↓reduceIte, Nat.reduceLT, Nat.reduceEqDiff, reduceCtorEq, Nat.reduceAdd, Nat.reduceMul, Int.reduceLE, Int.reduceLT, Int.reduceToNat, Nat.reduceLeDiff, Nat.reduceSub, Int.reduceEq, Nat.reduceBEq, List.replicate, List.set, if_false, if_true, ne_eq, false_implies, implies_true, evD0, evD1, evD2, evD3, evD4, evD5, evD6, evT, tyA0, tyA1, tyA2, tyA3, tyA4, tyA5, tyA6, tyA7, tyA8]; (repeat (with_reducible refine And.intro ?_ ?_; focus ((repeat' with_reducible apply And.intro) <;> (first | omega | with_reducible trivial | with_reducible assumption)))); (with_reducible first | refine awp_id ?_ | refine id_call ?_ | refine id_and ?_ | refine id_ex ?_ | refine id_all ?_ | refine id_le ?_))))
    refine awp_drawG ttok ((0, some []) :: (1, none) :: (2, none) :: (3, none) :: (4, none) :: (5, none) :: (6, none) :: (7, none) :: (8, none) :: (9, none) :: (10, none) :: (11, none) :: (12, none) :: (13, none) :: (14, none) :: (15, none) :: (16, none) :: (17, some [11, 12, 13, 14, 15]) :: (18, none) :: (19, none) :: (20, none) :: (21, none) :: (22, none) :: (23, none) :: (24, none) :: (25, none) :: []) ([]) ([]) (by decide +kernel) fun O hO => ?_; simp only [OpsAre, Nat.reduceAdd, and_true, List.toList_toArray, List.append_eq, List.cons_append, List.nil_append] at hO; simp (maxSteps := 4000000) only [↓reduceIte, Nat.reduceLT, Nat.reduceEqDiff, reduceCtorEq, Nat.reduceAdd, Nat.reduceMul, Int.reduceLE, Int.reduceLT, Int.reduceToNat, Nat.reduceLeDiff, Nat.reduceSub, Int.reduceEq, Nat.reduceBEq, List.replicate, List.set, if_false, if_true, ne_eq, false_implies, implies_true, evD0, evD1, evD2, evD3, evD4, evD5, evD6, evT, tyA0, tyA1, tyA2, tyA3, tyA4, tyA5, tyA6, tyA7, tyA8, hO, ]; (repeat (with_reducible refine And.intro ?_ ?_; focus ((repeat' with_reducible apply And.intro) <;> (first | omega | with_reducible trivial | with_reducible assumption))))
    refine callVC_scal fnok23 c_awake37 rfl ?_
    simp (maxSteps := 4000000) only [↓reduceIte, Nat.reduceLT, Nat.reduceEqDiff, reduceCtorEq, Nat.reduceAdd, Nat.reduceMul, Int.reduceLE, Int.reduceLT, Int.reduceToNat, Nat.reduceLeDiff, Nat.reduceSub, Int.reduceEq, Nat.reduceBEq, List.replicate, List.set, if_false, if_true, ne_eq, false_implies, implies_true, evD0, evD1, evD2, evD3, evD4, evD5, evD6, evT, tyA0, tyA1, tyA2, tyA3, tyA4, tyA5, tyA6, tyA7, tyA8, hO, g1, wrs_len, hpl, hw32]
    (repeat (with_reducible refine And.intro ?_ ?_; focus ((repeat' with_reducible apply And.intro) <;> (first | omega | with_reducible trivial | with_reducible assumption))))
    refine callVC_mk fnok27 hHd rfl ?_
    simp (maxSteps := 4000000) only [↓reduceIte, Nat.reduceLT, Nat.reduceEqDiff, reduceCtorEq, Nat.reduceAdd, Nat.reduceMul, Int.reduceLE, Int.reduceLT, Int.reduceToNat, Nat.reduceLeDiff, Nat.reduceSub, Int.reduceEq, Nat.reduceBEq, List.replicate, List.set, if_false, if_true, ne_eq, false_implies, implies_true, evD0, evD1, evD2, evD3, evD4, evD5, evD6, evT, tyA0, tyA1, tyA2, tyA3, tyA4, tyA5, tyA6, tyA7, tyA8, hO, g1, wrs_len, hpl, hw32, hhl, hht, kf]
    (repeat (with_reducible refine And.intro ?_ ?_; focus ((repeat' with_reducible apply And.intro) <;> (first | omega | with_reducible trivial | with_reducible assumption))))
    clear hO
    (repeat (first | refine awp_seq ?_ | refine awp_block ?_ | ((first | refine awp_skip ?_ | refine awp_exit ?_ | refine awp_reg ttok ?_ | (refine awp_draw ttok ?dr_calm ?_; (case dr_calm => decide +kernel)) | refine awp_condM ?_); simp (maxSteps := 4000000) only [↓reduceIte, Nat.reduceLT, Nat.reduceEqDiff, reduceCtorEq, Nat.reduceAdd, Nat.reduceMul, Int.reduceLE, Int.reduceLT, Int.reduceToNat, Nat.reduceLeDiff, Nat.reduceSub, Int.reduceEq, Nat.reduceBEq, List.replicate, List.set, if_false, if_true, ne_eq, false_implies, implies_true, evD0, evD1, evD2, evD3, evD4, evD5, evD6, evT, tyA0, tyA1, tyA2, tyA3, tyA4, tyA5, tyA6, tyA7, tyA8]; (repeat (with_reducible refine And.intro ?_ ?_; focus ((repeat' with_reducible apply And.intro) <;> (first | omega | with_reducible trivial | with_reducible assumption)))); (with_reducible first | refine awp_id ?_ | refine id_call ?_ | refine id_and ?_ | refine id_ex ?_ | refine id_all ?_ | refine id_le ?_))))
    exact awp_ret (ends_plain (.inr rfl) rfl (by simp (maxSteps := 4000000) only [↓reduceIte, Nat.reduceLT, Nat.reduceEqDiff, reduceCtorEq, Nat.reduceAdd, Nat.reduceMul, Int.reduceLE, Int.reduceLT, Int.reduceToNat, Nat.reduceLeDiff, Nat.reduceSub, Int.reduceEq, Nat.reduceBEq, List.replicate, List.set, if_false, if_true, ne_eq, false_implies, implies_true, evD0, evD1, evD2, evD3, evD4, evD5, evD6, evT]))

end Go.Proofs.Ytfllndodnhmhkaa
