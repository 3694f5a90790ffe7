/-
  The contract of the law SnapBack.
-/
import Derived.Test.YtfllndodnhmhkaaSnBy
namespace Go.Proofs.Ytfllndodnhmhkaa
open Go.Ab
set_option linter.unusedSimpArgs false
set_option linter.unusedVariables false

/-- The first j counted up. -/
def incS (S : List (Int × List Int)) (j : Nat) : List (Int × List Int) := (S.take j).map (fun s => (s.1 + 1, s.2)) ++ S.drop j
def incQ (Q : List Int) (j : Nat) : List Int := (Q.take j).map (· + 1) ++ Q.drop j
theorem incS_len (S : List (Int × List Int)) {j : Nat} (h : j ≤ S.length) : (incS S j).length = S.length := by simp [incS]; omega
theorem incQ_len (Q : List Int) {j : Nat} (h : j ≤ Q.length) : (incQ Q j).length = Q.length := by simp [incQ]; omega
theorem incS_get (S : List (Int × List Int)) {j : Nat} (h : j < S.length) : (incS S j).getD j (0, []) = S.getD j (0, []) := by
  have hl : ((S.take j).map fun s : Int × List Int => (s.1 + 1, s.2)).length = j := by simp; omega
  simp only [incS, List.getD]
  rw [List.getElem?_append_right (by omega), hl, Nat.sub_self, List.getElem?_drop, Nat.add_zero]
theorem incQ_get (Q : List Int) {j : Nat} (h : j < Q.length) : (incQ Q j).getD j 0 = Q.getD j 0 := by
  have hl : ((Q.take j).map (· + 1)).length = j := by simp; omega
  simp only [incQ, List.getD]
  rw [List.getElem?_append_right (by omega), hl, Nat.sub_self, List.getElem?_drop, Nat.add_zero]
theorem incS_step (S : List (Int × List Int)) {j : Nat} (h : j < S.length) : (incS S j).set j ((S.getD j (0, [])).1 + 1, (S.getD j (0, [])).2) = incS S (j + 1) := by
  have hl : ((S.take j).map fun s : Int × List Int => (s.1 + 1, s.2)).length = j := by simp; omega
  have e : S.getD j (0, []) = S[j] := by simp [List.getD, List.getElem?_eq_getElem h]
  rw [incS, List.set_append_right _ _ (by omega), hl, Nat.sub_self, List.drop_eq_getElem_cons h, List.set_cons_zero, incS, List.take_succ_eq_append_getElem h, List.map_append, e]
  simp
theorem incQ_step (Q : List Int) {j : Nat} (h : j < Q.length) : (incQ Q j).set j (Q.getD j 0 + 1) = incQ Q (j + 1) := by
  have hl : ((Q.take j).map (· + 1)).length = j := by simp; omega
  have e : Q.getD j 0 = Q[j] := by simp [List.getD, List.getElem?_eq_getElem h]
  rw [incQ, List.set_append_right _ _ (by omega), hl, Nat.sub_self, List.drop_eq_getElem_cons h, List.set_cons_zero, incQ, List.take_succ_eq_append_getElem h, List.map_append, e]
  simp
theorem srs_set (S : List (Int × List Int)) (j : Nat) (c : Int) (x : List Int) : (srs S).set j [i64 c, D.sl false (ints x)] = srs (S.set j (c, x)) := by simp [srs]
theorem ints_set (Q : List Int) (j : Nat) (c : Int) : (ints Q).set j [i64 c] = ints (Q.set j c) := by simp [ints]
theorem sameI_self (a b : Int) (l : List (Int × List Int)) (k : List Int) : sameI a b l k a b l k = true := by simp [sameI]

set_option maxRecDepth 20000 in
set_option maxHeartbeats 16000000 in
theorem c_SnapBack (gen a b : Int) (f g : Bool) (l : List (Int × List Int)) (k : List Int) : Contract Try.prog 8 [i64 gen, .agg [i64 a, i64 b, .sl f (srs l), .sl g (ints k)]] (bo true) [] := by
  refine contract_of_awp (rs := [4]) Try.func8 rfl Try.ntmps8 (by simp) rfl fun E => ?_
  have hmi := mayI a b l
  have hts : List.take (min l.length 4) (sentsI l 4) = sentsI l 4 := List.take_of_length_le (by simp [sentsI]; omega)
  have htq : List.take (min l.length 4) (takenI l 4) = takenI l 4 := List.take_of_length_le (by simp [takenI]; omega)
  have hsl : (sentsI l 4).length = min l.length 4 := by simp [sentsI]; omega
  have hql : (takenI l 4).length = min l.length 4 := by simp [takenI]; omega
  have hz := lowB_le 65535 gen (by decide)
  (repeat (first | refine awp_seq ?_ | refine awp_block ?_ | ((first | refine awp_skip ?_ | refine awp_exit ?_ | refine awp_reg ttok ?_ | (refine awp_draw ttok ?dr_calm ?_; (case dr_calm => decide +kernel)) | refine awp_condM ?_); simp (maxSteps := 4000000) only [↓reduceIte, Nat.reduceLT, Nat.reduceEqDiff, reduceCtorEq, Nat.reduceAdd, Nat.reduceMul, Int.reduceLE, Int.reduceLT, Int.reduceToNat, Nat.reduceLeDiff, Nat.reduceSub, Int.reduceEq, Nat.reduceBEq, List.replicate, List.set, if_false, if_true, ne_eq, false_implies, implies_true, evD0, evD1, evD2, evD3, evD4, evD5, evD6, evT, tyA0, tyA1, tyA2, tyA3, tyA4, tyA5, tyA6, tyA7, tyA8, low65535]; (repeat (with_reducible refine And.intro ?_ ?_; focus ((repeat' with_reducible apply And.intro) <;> (first | omega | with_reducible trivial | with_reducible assumption)))); (with_reducible first | refine awp_id ?_ | refine id_call ?_ | refine id_and ?_ | refine id_ex ?_ | refine id_all ?_ | refine id_le ?_))))
  refine callVC_mk fnok21 (c_Image a b f g l k) rfl ?_
  simp (maxSteps := 4000000) only [↓reduceIte, Nat.reduceLT, Nat.reduceEqDiff, reduceCtorEq, Nat.reduceAdd, Nat.reduceMul, Int.reduceLE, Int.reduceLT, Int.reduceToNat, Nat.reduceLeDiff, Nat.reduceSub, Int.reduceEq, Nat.reduceBEq, List.replicate, List.set, if_false, if_true, ne_eq, false_implies, implies_true, evD0, evD1, evD2, evD3, evD4, evD5, evD6, evT, tyA0, tyA1, tyA2, tyA3, tyA4, tyA5, tyA6, tyA7, tyA8, srs_take, hts, htq, srs_len, hsl, hql, low65535]
  (repeat (with_reducible refine And.intro ?_ ?_; focus ((repeat' with_reducible apply And.intro) <;> (first | omega | with_reducible trivial | with_reducible assumption))))
  obtain ⟨n, hn⟩ : ∃ n, n = min l.length 4 := ⟨_, rfl⟩
  have hn4 : n ≤ 4 := by omega
  rw [← hn] at hts htq hsl hql ⊢
  generalize lowB 65535 a = A at *
  generalize lowB 255 b = B at *
  generalize sentsI l 4 = S at *
  generalize takenI l 4 = Q at *
  generalize lowB 65535 gen = z at *
  obtain ⟨hb1, hb2⟩ := snapNums_bd (z := (z : Int)) hmi (by omega)
  have hPut := c_sPut (z : Int) (A : Int) (B : Int) false false S Q hmi (by omega) (by omega)
  have hBy := c_bytes (z : Int) (A : Int) (B : Int) false false S Q hmi (by omega) (by omega)
  have hGet := c_sGet codeGet_le false (cps (snapNums (z : Int) (A : Int) (B : Int) S Q)) (by omega)
  rw [get_put hmi (by omega) (by omega)] at hGet
  generalize cps (snapNums (z : Int) (A : Int) (B : Int) S Q) = P at *
  have hPt : List.take P.length P = P := List.take_length
  obtain ⟨_, _, _, _, hS⟩ := mayB_true hmi
  have hS8 : ∀ x ∈ S, x.2.length ≤ 8 := fun x hx => by
    obtain ⟨j, hj, rfl⟩ := List.getElem_of_mem hx
    have := (sOk_true (hS j hj)).2.2.2.2.1
    have el : S.getD j (0, []) = S[j] := by simp [List.getD, List.getElem?_eq_getElem hj]
    rwa [el] at this
  (repeat (first | refine awp_seq ?_ | refine awp_block ?_ | ((first | refine awp_skip ?_ | refine awp_exit ?_ | refine awp_reg ttok ?_ | (refine awp_draw ttok ?dr_calm ?_; (case dr_calm => decide +kernel)) | refine awp_condM ?_); simp (maxSteps := 4000000) only [↓reduceIte, Nat.reduceLT, Nat.reduceEqDiff, reduceCtorEq, Nat.reduceAdd, Nat.reduceMul, Int.reduceLE, Int.reduceLT, Int.reduceToNat, Nat.reduceLeDiff, Nat.reduceSub, Int.reduceEq, Nat.reduceBEq, List.replicate, List.set, if_false, if_true, ne_eq, false_implies, implies_true, evD0, evD1, evD2, evD3, evD4, evD5, evD6, evT, tyA0, tyA1, tyA2, tyA3, tyA4, tyA5, tyA6, tyA7, tyA8, srs_take, hts, htq, srs_len, hsl, hql]; (repeat (with_reducible refine And.intro ?_ ?_; focus ((repeat' with_reducible apply And.intro) <;> (first | omega | with_reducible trivial | with_reducible assumption)))); (with_reducible first | refine awp_id ?_ | refine id_call ?_ | refine id_and ?_ | refine id_ex ?_ | refine id_all ?_ | refine id_le ?_))))
  refine callVC_mk fnok20 hPut rfl ?_
  simp (maxSteps := 4000000) only [↓reduceIte, Nat.reduceLT, Nat.reduceEqDiff, reduceCtorEq, Nat.reduceAdd, Nat.reduceMul, Int.reduceLE, Int.reduceLT, Int.reduceToNat, Nat.reduceLeDiff, Nat.reduceSub, Int.reduceEq, Nat.reduceBEq, List.replicate, List.set, if_false, if_true, ne_eq, false_implies, implies_true, evD0, evD1, evD2, evD3, evD4, evD5, evD6, evT, tyA0, tyA1, tyA2, tyA3, tyA4, tyA5, tyA6, tyA7, tyA8, hPt]
  (repeat (with_reducible refine And.intro ?_ ?_; focus ((repeat' with_reducible apply And.intro) <;> (first | omega | with_reducible trivial | with_reducible assumption))))
  refine callVC_mk fnok22 hGet rfl ?_
  simp (maxSteps := 4000000) only [↓reduceIte, Nat.reduceLT, Nat.reduceEqDiff, reduceCtorEq, Nat.reduceAdd, Nat.reduceMul, Int.reduceLE, Int.reduceLT, Int.reduceToNat, Nat.reduceLeDiff, Nat.reduceSub, Int.reduceEq, Nat.reduceBEq, List.replicate, List.set, if_false, if_true, ne_eq, false_implies, implies_true, evD0, evD1, evD2, evD3, evD4, evD5, evD6, evT, tyA0, tyA1, tyA2, tyA3, tyA4, tyA5, tyA6, tyA7, tyA8]
  (repeat (with_reducible refine And.intro ?_ ?_; focus ((repeat' with_reducible apply And.intro) <;> (first | omega | with_reducible trivial | with_reducible assumption))))
  (repeat (first | refine awp_seq ?_ | refine awp_block ?_ | ((first | refine awp_skip ?_ | refine awp_exit ?_ | refine awp_reg ttok ?_ | (refine awp_draw ttok ?dr_calm ?_; (case dr_calm => decide +kernel)) | refine awp_condM ?_); simp (maxSteps := 4000000) only [↓reduceIte, Nat.reduceLT, Nat.reduceEqDiff, reduceCtorEq, Nat.reduceAdd, Nat.reduceMul, Int.reduceLE, Int.reduceLT, Int.reduceToNat, Nat.reduceLeDiff, Nat.reduceSub, Int.reduceEq, Nat.reduceBEq, List.replicate, List.set, if_false, if_true, ne_eq, false_implies, implies_true, evD0, evD1, evD2, evD3, evD4, evD5, evD6, evT, tyA0, tyA1, tyA2, tyA3, tyA4, tyA5, tyA6, tyA7, tyA8, srs_take, hts, htq, srs_len, hsl, hql]; (repeat (with_reducible refine And.intro ?_ ?_; focus ((repeat' with_reducible apply And.intro) <;> (first | omega | with_reducible trivial | with_reducible assumption)))); (with_reducible first | refine awp_id ?_ | refine id_call ?_ | refine id_and ?_ | refine id_ex ?_ | refine id_all ?_ | refine id_le ?_))))
  refine callVC_mk fnok29 (c_sCopy (A : Int) (B : Int) false false S Q (by omega) (by omega) (fun x hx => by have := hS8 x hx; omega)) rfl ?_
  simp (maxSteps := 4000000) only [↓reduceIte, Nat.reduceLT, Nat.reduceEqDiff, reduceCtorEq, Nat.reduceAdd, Nat.reduceMul, Int.reduceLE, Int.reduceLT, Int.reduceToNat, Nat.reduceLeDiff, Nat.reduceSub, Int.reduceEq, Nat.reduceBEq, List.replicate, List.set, if_false, if_true, ne_eq, false_implies, implies_true, evD0, evD1, evD2, evD3, evD4, evD5, evD6, evT, tyA0, tyA1, tyA2, tyA3, tyA4, tyA5, tyA6, tyA7, tyA8, srs_take, hts, htq, srs_len, hsl, hql]
  (repeat (with_reducible refine And.intro ?_ ?_; focus ((repeat' with_reducible apply And.intro) <;> (first | omega | with_reducible trivial | with_reducible assumption))))
  (repeat (first | refine awp_seq ?_ | refine awp_block ?_ | ((first | refine awp_skip ?_ | refine awp_exit ?_ | refine awp_reg ttok ?_ | (refine awp_draw ttok ?dr_calm ?_; (case dr_calm => decide +kernel)) | refine awp_condM ?_); simp (maxSteps := 4000000) only [↓reduceIte, Nat.reduceLT, Nat.reduceEqDiff, reduceCtorEq, Nat.reduceAdd, Nat.reduceMul, Int.reduceLE, Int.reduceLT, Int.reduceToNat, Nat.reduceLeDiff, Nat.reduceSub, Int.reduceEq, Nat.reduceBEq, List.replicate, List.set, if_false, if_true, ne_eq, false_implies, implies_true, evD0, evD1, evD2, evD3, evD4, evD5, evD6, evT, tyA0, tyA1, tyA2, tyA3, tyA4, tyA5, tyA6, tyA7, tyA8, srs_take, hts, htq, srs_len, hsl, hql]; (repeat (with_reducible refine And.intro ?_ ?_; focus ((repeat' with_reducible apply And.intro) <;> (first | omega | with_reducible trivial | with_reducible assumption)))); (with_reducible first | refine awp_id ?_ | refine id_call ?_ | refine id_and ?_ | refine id_ex ?_ | refine id_all ?_ | refine id_le ?_))))
  refine callVC_scal fnok30 (c_sSame false false false false (A : Int) (B : Int) S Q (A : Int) (B : Int) S Q (by omega) (by omega) (fun x hx => by have := hS8 x hx; omega)) rfl ?_
  simp (maxSteps := 4000000) only [↓reduceIte, Nat.reduceLT, Nat.reduceEqDiff, reduceCtorEq, Nat.reduceAdd, Nat.reduceMul, Int.reduceLE, Int.reduceLT, Int.reduceToNat, Nat.reduceLeDiff, Nat.reduceSub, Int.reduceEq, Nat.reduceBEq, List.replicate, List.set, if_false, if_true, ne_eq, false_implies, implies_true, evD0, evD1, evD2, evD3, evD4, evD5, evD6, evT, tyA0, tyA1, tyA2, tyA3, tyA4, tyA5, tyA6, tyA7, tyA8, srs_take, hts, htq, srs_len, hsl, hql, sameI_self]
  (repeat (with_reducible refine And.intro ?_ ?_; focus ((repeat' with_reducible apply And.intro) <;> (first | omega | with_reducible trivial | with_reducible assumption))))
  (repeat (first | refine awp_seq ?_ | refine awp_block ?_ | ((first | refine awp_skip ?_ | refine awp_exit ?_ | refine awp_reg ttok ?_ | (refine awp_draw ttok ?dr_calm ?_; (case dr_calm => decide +kernel)) | refine awp_condM ?_); simp (maxSteps := 4000000) only [↓reduceIte, Nat.reduceLT, Nat.reduceEqDiff, reduceCtorEq, Nat.reduceAdd, Nat.reduceMul, Int.reduceLE, Int.reduceLT, Int.reduceToNat, Nat.reduceLeDiff, Nat.reduceSub, Int.reduceEq, Nat.reduceBEq, List.replicate, List.set, if_false, if_true, ne_eq, false_implies, implies_true, evD0, evD1, evD2, evD3, evD4, evD5, evD6, evT, tyA0, tyA1, tyA2, tyA3, tyA4, tyA5, tyA6, tyA7, tyA8, srs_take, hts, htq, srs_len, hsl, hql, bne_self_eq_false]; (repeat (with_reducible refine And.intro ?_ ?_; focus ((repeat' with_reducible apply And.intro) <;> (first | omega | with_reducible trivial | with_reducible assumption)))); (with_reducible first | refine awp_id ?_ | refine id_call ?_ | refine id_and ?_ | refine id_ex ?_ | refine id_all ?_ | refine id_le ?_))))
  refine awp_pureO 2004 (by simp (maxSteps := 4000000) only [↓reduceIte, Nat.reduceLT, Nat.reduceEqDiff, reduceCtorEq, Nat.reduceAdd, Nat.reduceMul, Int.reduceLE, Int.reduceLT, Int.reduceToNat, Nat.reduceLeDiff, Nat.reduceSub, Int.reduceEq, Nat.reduceBEq, List.replicate, List.set, if_false, if_true, ne_eq, false_implies, implies_true, evD0, evD1, evD2, evD3, evD4, evD5, evD6, evT]; rfl) rfl (by simp (maxSteps := 4000000) only [↓reduceIte, Nat.reduceLT, Nat.reduceEqDiff, reduceCtorEq, Nat.reduceAdd, Nat.reduceMul, Int.reduceLE, Int.reduceLT, Int.reduceToNat, Nat.reduceLeDiff, Nat.reduceSub, Int.reduceEq, Nat.reduceBEq, List.replicate, List.set, if_false, if_true, ne_eq, false_implies, implies_true, evD0, evD1, evD2, evD3, evD4, evD5, evD6, evT, srs_take, hts, htq]; rfl) (by simp (maxSteps := 4000000) only [↓reduceIte, Nat.reduceLT, Nat.reduceEqDiff, reduceCtorEq, Nat.reduceAdd, Nat.reduceMul, Int.reduceLE, Int.reduceLT, Int.reduceToNat, Nat.reduceLeDiff, Nat.reduceSub, Int.reduceEq, Nat.reduceBEq, List.replicate, List.set, if_false, if_true, ne_eq, false_implies, implies_true, evD0, evD1, evD2, evD3, evD4, evD5, evD6, evT, srs_len, hsl, hql]) (by decide) ?_
  refine awp_at 112 [(5, _), (6, _), (7, _), (8, _), (9, _), (10, _), (11, _), (12, _)] [(2004, _), (3008, _), (4002, _), (104001, _), (104002, _)] rfl (by (first | simp (maxSteps := 4000000) only [↓reduceIte, Nat.reduceLT, Nat.reduceEqDiff, reduceCtorEq, Nat.reduceAdd, Nat.reduceMul, Int.reduceLE, Int.reduceLT, Int.reduceToNat, Nat.reduceLeDiff, Nat.reduceSub, Int.reduceEq, Nat.reduceBEq, List.replicate, List.set, if_false, if_true, ne_eq, false_implies, implies_true, evD0, evD1, evD2, evD3, evD4, evD5, evD6, evT] | skip); exact ⟨rfl, rfl, rfl, rfl, rfl, rfl, rfl, rfl⟩) (by (first | simp (maxSteps := 4000000) only [↓reduceIte, Nat.reduceLT, Nat.reduceEqDiff, reduceCtorEq, Nat.reduceAdd, Nat.reduceMul, Int.reduceLE, Int.reduceLT, Int.reduceToNat, Nat.reduceLeDiff, Nat.reduceSub, Int.reduceEq, Nat.reduceBEq, List.replicate, List.set, if_false, if_true, ne_eq, false_implies, implies_true, evD0, evD1, evD2, evD3, evD4, evD5, evD6, evT] | skip); exact ⟨rfl, rfl, rfl, rfl, rfl⟩) ?_
  refine awp_loop (X := Nat) (fun j => mkS 112 [(5, .ptr 2004 0 0), (6, i64 z), (7, i64 z), (8, .ptr 3008 0 0), (9, bo true), (10, .ptr 4002 0 0), (11, bo true), (12, i64 j)]
      [(2004, { sz := 4, rows := [[i64 (A : Int), i64 (B : Int), .sl false (srs S), .sl false (ints Q)]] }), (3008, { sz := 4, rows := [[i64 (A : Int), i64 (B : Int), .sl false (srs S), .sl false (ints Q)]], flat := false }), (4002, { sz := 4, rows := [[i64 (A : Int), i64 (B : Int), .own 104001 0 n, .own 104002 0 n]], flat := false }), (104001, { sz := 2, rows := srs (incS S j) }), (104002, { sz := 1, rows := ints (incQ Q j) })])
    (fun j => j ≤ n) (fun j => n - j) 0 (by omega) (mkS_le rfl ?_ ?_) ?_
  · simp (maxSteps := 4000000) only [↓reduceIte, Nat.reduceLT, Nat.reduceEqDiff, reduceCtorEq, Nat.reduceAdd, Nat.reduceMul, Int.reduceLE, Int.reduceLT, Int.reduceToNat, Nat.reduceLeDiff, Nat.reduceSub, Int.reduceEq, Nat.reduceBEq, List.replicate, List.set, if_false, if_true, ne_eq, false_implies, implies_true, evD0, evD1, evD2, evD3, evD4, evD5, evD6, evT]
    try rfl
  · simp (maxSteps := 4000000) only [↓reduceIte, Nat.reduceLT, Nat.reduceEqDiff, reduceCtorEq, Nat.reduceAdd, Nat.reduceMul, Int.reduceLE, Int.reduceLT, Int.reduceToNat, Nat.reduceLeDiff, Nat.reduceSub, Int.reduceEq, Nat.reduceBEq, List.replicate, List.set, if_false, if_true, ne_eq, false_implies, implies_true, evD0, evD1, evD2, evD3, evD4, evD5, evD6, evT]
    exact ⟨rfl, rfl⟩
  intro j hj
  have hSj := incS_len S (j := j) (by omega)
  have hQj := incQ_len Q (j := j) (by omega)
  by_cases hlt : j < n
  · have d1 : decide ((j : Int) < (n : Int)) = true := by simpa using hlt
    have gi := srs_get (l := incS S j) (i := j) (by omega)
    have gk := ints_get (l := incQ Q j) (i := j) (by omega)
    rw [incS_get S (by omega)] at gi
    rw [incQ_get Q (by omega)] at gk
    have hsj := sOk_true (hS j (by omega))
    have st1 := incS_step S (j := j) (by omega)
    have st2 := incQ_step Q (j := j) (by omega)
    have hw : IntKind.i64.wrap ((j : Int) + 1) = ((j + 1 : Nat) : Int) := i64_in (by omega) (by omega)
    have hw1 : IntKind.i64.wrap ((S.getD j (0, [])).1 + 1) = (S.getD j (0, [])).1 + 1 := i64_in (by omega) (by omega)
    have hw2 : IntKind.i64.wrap (Q.getD j 0 + 1) = Q.getD j 0 + 1 := i64_in (by omega) (by omega)
    generalize S.getD j (0, []) = x at *
    generalize Q.getD j 0 = q at *
    (repeat (first | refine awp_seq ?_ | refine awp_block ?_ | ((first | refine awp_skip ?_ | refine awp_exit ?_ | refine awp_reg ttok ?_ | (refine awp_draw ttok ?dr_calm ?_; (case dr_calm => decide +kernel)) | refine awp_condM ?_); simp (maxSteps := 4000000) only [↓reduceIte, Nat.reduceLT, Nat.reduceEqDiff, reduceCtorEq, Nat.reduceAdd, Nat.reduceMul, Int.reduceLE, Int.reduceLT, Int.reduceToNat, Nat.reduceLeDiff, Nat.reduceSub, Int.reduceEq, Nat.reduceBEq, List.replicate, List.set, if_false, if_true, ne_eq, false_implies, implies_true, evD0, evD1, evD2, evD3, evD4, evD5, evD6, evT, tyA0, tyA1, tyA2, tyA3, tyA4, tyA5, tyA6, tyA7, tyA8, d1, gi, gk, srs_len, hSj, hQj, hsl, hql, hw1, hw2, srs_set, ints_set, st1, st2, hw]; (repeat (with_reducible refine And.intro ?_ ?_; focus ((repeat' with_reducible apply And.intro) <;> (first | omega | with_reducible trivial | with_reducible assumption)))); (with_reducible first | refine awp_id ?_ | refine id_call ?_ | refine id_and ?_ | refine id_ex ?_ | refine id_all ?_ | refine id_le ?_))))
    refine ⟨j + 1, by omega, by omega, mkS_le rfl ?_ ?_⟩
    · simp (maxSteps := 4000000) only [↓reduceIte, Nat.reduceLT, Nat.reduceEqDiff, reduceCtorEq, Nat.reduceAdd, Nat.reduceMul, Int.reduceLE, Int.reduceLT, Int.reduceToNat, Nat.reduceLeDiff, Nat.reduceSub, Int.reduceEq, Nat.reduceBEq, List.replicate, List.set, if_false, if_true, ne_eq, false_implies, implies_true, evD0, evD1, evD2, evD3, evD4, evD5, evD6, evT]
    · simp (maxSteps := 4000000) only [↓reduceIte, Nat.reduceLT, Nat.reduceEqDiff, reduceCtorEq, Nat.reduceAdd, Nat.reduceMul, Int.reduceLE, Int.reduceLT, Int.reduceToNat, Nat.reduceLeDiff, Nat.reduceSub, Int.reduceEq, Nat.reduceBEq, List.replicate, List.set, if_false, if_true, ne_eq, false_implies, implies_true, evD0, evD1, evD2, evD3, evD4, evD5, evD6, evT]
  · have d1 : decide ((j : Int) < (n : Int)) = false := by simpa using hlt
    obtain rfl : j = n := by omega
    have htS : List.take j (incS S j) = incS S j := List.take_of_length_le (by omega)
    have htQ : List.take j (incQ Q j) = incQ Q j := List.take_of_length_le (by omega)
    have kt : (!true) = false := rfl
    have kf : (!false) = true := rfl
    have hMay := c_May (A : Int) (B : Int) false false S Q
    rw [hmi] at hMay
    have hsamei := sameI_self (A : Int) (B : Int) S Q
    (repeat (first | refine awp_seq ?_ | refine awp_block ?_ | ((first | refine awp_skip ?_ | refine awp_exit ?_ | refine awp_reg ttok ?_ | (refine awp_draw ttok ?dr_calm ?_; (case dr_calm => decide +kernel)) | refine awp_condM ?_); simp (maxSteps := 4000000) only [↓reduceIte, Nat.reduceLT, Nat.reduceEqDiff, reduceCtorEq, Nat.reduceAdd, Nat.reduceMul, Int.reduceLE, Int.reduceLT, Int.reduceToNat, Nat.reduceLeDiff, Nat.reduceSub, Int.reduceEq, Nat.reduceBEq, List.replicate, List.set, if_false, if_true, ne_eq, false_implies, implies_true, evD0, evD1, evD2, evD3, evD4, evD5, evD6, evT, tyA0, tyA1, tyA2, tyA3, tyA4, tyA5, tyA6, tyA7, tyA8, d1]; (repeat (with_reducible refine And.intro ?_ ?_; focus ((repeat' with_reducible apply And.intro) <;> (first | omega | with_reducible trivial | with_reducible assumption)))); (with_reducible first | refine awp_id ?_ | refine id_call ?_ | refine id_and ?_ | refine id_ex ?_ | refine id_all ?_ | refine id_le ?_))))
    refine awp_drawG ttok ((0, some []) :: (1, none) :: (2, none) :: (3, some []) :: (4, none) :: (5, none) :: (6, none) :: (7, none) :: (10, none) :: (11, none) :: (8, some [10, 11]) :: (9, none) :: (12, some [9]) :: (13, none) :: (14, none) :: (15, none) :: (16, none) :: (17, none) :: (18, none) :: (19, none) :: (20, none) :: (21, none) :: (22, none) :: (23, none) :: (24, none) :: (25, none) :: (26, some []) :: (27, none) :: (28, none) :: (29, none) :: (30, none) :: (31, none) :: (32, none) :: (33, none) :: (34, none) :: (35, none) :: (36, none) :: (37, none) :: (38, none) :: (39, some []) :: (40, none) :: (41, none) :: (42, none) :: (43, none) :: []) ([]) ([]) (by decide +kernel) fun O hO => ?_; simp only [OpsAre, Nat.reduceAdd, and_true, List.toList_toArray, List.append_eq, List.cons_append, List.nil_append] at hO; simp (maxSteps := 4000000) only [↓reduceIte, Nat.reduceLT, Nat.reduceEqDiff, reduceCtorEq, Nat.reduceAdd, Nat.reduceMul, Int.reduceLE, Int.reduceLT, Int.reduceToNat, Nat.reduceLeDiff, Nat.reduceSub, Int.reduceEq, Nat.reduceBEq, List.replicate, List.set, if_false, if_true, ne_eq, false_implies, implies_true, evD0, evD1, evD2, evD3, evD4, evD5, evD6, evT, tyA0, tyA1, tyA2, tyA3, tyA4, tyA5, tyA6, tyA7, tyA8, hO, ]; (repeat (with_reducible refine And.intro ?_ ?_; focus ((repeat' with_reducible apply And.intro) <;> (first | omega | with_reducible trivial | with_reducible assumption))))
    refine callVC_scal fnok23 c_awake37 rfl ?_
    simp (maxSteps := 4000000) only [↓reduceIte, Nat.reduceLT, Nat.reduceEqDiff, reduceCtorEq, Nat.reduceAdd, Nat.reduceMul, Int.reduceLE, Int.reduceLT, Int.reduceToNat, Nat.reduceLeDiff, Nat.reduceSub, Int.reduceEq, Nat.reduceBEq, List.replicate, List.set, if_false, if_true, ne_eq, false_implies, implies_true, evD0, evD1, evD2, evD3, evD4, evD5, evD6, evT, tyA0, tyA1, tyA2, tyA3, tyA4, tyA5, tyA6, tyA7, tyA8, hO]
    (repeat (with_reducible refine And.intro ?_ ?_; focus ((repeat' with_reducible apply And.intro) <;> (first | omega | with_reducible trivial | with_reducible assumption))))
    refine callVC_scal fnok24 hMay rfl ?_
    simp (maxSteps := 4000000) only [↓reduceIte, Nat.reduceLT, Nat.reduceEqDiff, reduceCtorEq, Nat.reduceAdd, Nat.reduceMul, Int.reduceLE, Int.reduceLT, Int.reduceToNat, Nat.reduceLeDiff, Nat.reduceSub, Int.reduceEq, Nat.reduceBEq, List.replicate, List.set, if_false, if_true, ne_eq, false_implies, implies_true, evD0, evD1, evD2, evD3, evD4, evD5, evD6, evT, tyA0, tyA1, tyA2, tyA3, tyA4, tyA5, tyA6, tyA7, tyA8, hO]
    (repeat (with_reducible refine And.intro ?_ ?_; focus ((repeat' with_reducible apply And.intro) <;> (first | omega | with_reducible trivial | with_reducible assumption))))
    refine callVC_mk fnok20 hPut rfl ?_
    simp (maxSteps := 4000000) only [↓reduceIte, Nat.reduceLT, Nat.reduceEqDiff, reduceCtorEq, Nat.reduceAdd, Nat.reduceMul, Int.reduceLE, Int.reduceLT, Int.reduceToNat, Nat.reduceLeDiff, Nat.reduceSub, Int.reduceEq, Nat.reduceBEq, List.replicate, List.set, if_false, if_true, ne_eq, false_implies, implies_true, evD0, evD1, evD2, evD3, evD4, evD5, evD6, evT, tyA0, tyA1, tyA2, tyA3, tyA4, tyA5, tyA6, tyA7, tyA8, hO, hPt]
    (repeat (with_reducible refine And.intro ?_ ?_; focus ((repeat' with_reducible apply And.intro) <;> (first | omega | with_reducible trivial | with_reducible assumption))))
    refine callVC_mk fnok31 hBy rfl ?_
    simp (maxSteps := 4000000) only [↓reduceIte, Nat.reduceLT, Nat.reduceEqDiff, reduceCtorEq, Nat.reduceAdd, Nat.reduceMul, Int.reduceLE, Int.reduceLT, Int.reduceToNat, Nat.reduceLeDiff, Nat.reduceSub, Int.reduceEq, Nat.reduceBEq, List.replicate, List.set, if_false, if_true, ne_eq, false_implies, implies_true, evD0, evD1, evD2, evD3, evD4, evD5, evD6, evT, tyA0, tyA1, tyA2, tyA3, tyA4, tyA5, tyA6, tyA7, tyA8, hO, hPt]
    (repeat (with_reducible refine And.intro ?_ ?_; focus ((repeat' with_reducible apply And.intro) <;> (first | omega | with_reducible trivial | with_reducible assumption))))
    refine callVC_scal fnok32 (c_rSame false false false false (A : Int) (B : Int) S Q (A : Int) (B : Int) S Q (by omega) (by omega) (fun x hx => by have := hS8 x hx; omega)) rfl ?_
    by_cases h0 : j = 0
    · subst h0
      simp (maxSteps := 4000000) only [↓reduceIte, Nat.reduceLT, Nat.reduceEqDiff, reduceCtorEq, Nat.reduceAdd, Nat.reduceMul, Int.reduceLE, Int.reduceLT, Int.reduceToNat, Nat.reduceLeDiff, Nat.reduceSub, Int.reduceEq, Nat.reduceBEq, List.replicate, List.set, if_false, if_true, ne_eq, false_implies, implies_true, evD0, evD1, evD2, evD3, evD4, evD5, evD6, evT, tyA0, tyA1, tyA2, tyA3, tyA4, tyA5, tyA6, tyA7, tyA8, hO, hPt, hsamei, srs_len, hsl, show (((0 : Nat) : Int) == 0) = true from rfl]
      (repeat (with_reducible refine And.intro ?_ ?_; focus ((repeat' with_reducible apply And.intro) <;> (first | omega | with_reducible trivial | with_reducible assumption))))
      clear hO
      (repeat (first | refine awp_seq ?_ | refine awp_block ?_ | ((first | refine awp_skip ?_ | refine awp_exit ?_ | refine awp_reg ttok ?_ | (refine awp_draw ttok ?dr_calm ?_; (case dr_calm => decide +kernel)) | refine awp_condM ?_); simp (maxSteps := 4000000) only [↓reduceIte, Nat.reduceLT, Nat.reduceEqDiff, reduceCtorEq, Nat.reduceAdd, Nat.reduceMul, Int.reduceLE, Int.reduceLT, Int.reduceToNat, Nat.reduceLeDiff, Nat.reduceSub, Int.reduceEq, Nat.reduceBEq, List.replicate, List.set, if_false, if_true, ne_eq, false_implies, implies_true, evD0, evD1, evD2, evD3, evD4, evD5, evD6, evT, tyA0, tyA1, tyA2, tyA3, tyA4, tyA5, tyA6, tyA7, tyA8]; (repeat (with_reducible refine And.intro ?_ ?_; focus ((repeat' with_reducible apply And.intro) <;> (first | omega | with_reducible trivial | with_reducible assumption)))); (with_reducible first | refine awp_id ?_ | refine id_call ?_ | refine id_and ?_ | refine id_ex ?_ | refine id_all ?_ | refine id_le ?_))))
      exact awp_ret (ends_plain (.inr rfl) rfl (by simp (maxSteps := 4000000) only [↓reduceIte, Nat.reduceLT, Nat.reduceEqDiff, reduceCtorEq, Nat.reduceAdd, Nat.reduceMul, Int.reduceLE, Int.reduceLT, Int.reduceToNat, Nat.reduceLeDiff, Nat.reduceSub, Int.reduceEq, Nat.reduceBEq, List.replicate, List.set, if_false, if_true, ne_eq, false_implies, implies_true, evD0, evD1, evD2, evD3, evD4, evD5, evD6, evT]))
    · have k0 : ((j : Int) == 0) = false := beq_eq_false_iff_ne.2 (by omega)
      have hno : sameI (A : Int) (B : Int) (incS S j) (incQ Q j) (A : Int) (B : Int) S Q = false := by
        have : (incQ Q j == Q) = false := by
          rw [beq_eq_false_iff_ne]
          intro e
          have e1 : (incQ Q j).getD 0 0 = Q.getD 0 0 + 1 := by
            match Q, hql with
            | q :: Q', h => rw [incQ]; cases j with
              | zero => omega
              | succ j => simp
            | [], h => simp at h; omega
          rw [e] at e1; omega
        simp only [sameI, this, Bool.false_and, Bool.and_false]
      simp (maxSteps := 4000000) only [↓reduceIte, Nat.reduceLT, Nat.reduceEqDiff, reduceCtorEq, Nat.reduceAdd, Nat.reduceMul, Int.reduceLE, Int.reduceLT, Int.reduceToNat, Nat.reduceLeDiff, Nat.reduceSub, Int.reduceEq, Nat.reduceBEq, List.replicate, List.set, if_false, if_true, ne_eq, false_implies, implies_true, evD0, evD1, evD2, evD3, evD4, evD5, evD6, evT, tyA0, tyA1, tyA2, tyA3, tyA4, tyA5, tyA6, tyA7, tyA8, hO, hPt, hsamei, srs_len, hsl, k0, srs_take, htS, htQ, hSj, hQj, hql]
      (repeat (with_reducible refine And.intro ?_ ?_; focus ((repeat' with_reducible apply And.intro) <;> (first | omega | with_reducible trivial | with_reducible assumption))))
      refine callVC_scal fnok30 (c_sSame false false false false (A : Int) (B : Int) (incS S j) (incQ Q j) (A : Int) (B : Int) S Q (by omega) (by omega) (fun x hx => by
        have : ∀ x ∈ incS S j, x.2.length ≤ 8 := fun x hx => by
          rcases List.mem_append.1 hx with h | h
          · obtain ⟨y, hy, rfl⟩ := List.mem_map.1 h
            exact hS8 y (List.mem_of_mem_take hy)
          · exact hS8 x (List.mem_of_mem_drop h)
        have := this x hx; omega)) rfl ?_
      simp (maxSteps := 4000000) only [↓reduceIte, Nat.reduceLT, Nat.reduceEqDiff, reduceCtorEq, Nat.reduceAdd, Nat.reduceMul, Int.reduceLE, Int.reduceLT, Int.reduceToNat, Nat.reduceLeDiff, Nat.reduceSub, Int.reduceEq, Nat.reduceBEq, List.replicate, List.set, if_false, if_true, ne_eq, false_implies, implies_true, evD0, evD1, evD2, evD3, evD4, evD5, evD6, evT, tyA0, tyA1, tyA2, tyA3, tyA4, tyA5, tyA6, tyA7, tyA8, hO, hno, kf]
      (repeat (with_reducible refine And.intro ?_ ?_; focus ((repeat' with_reducible apply And.intro) <;> (first | omega | with_reducible trivial | with_reducible assumption))))
      clear hO
      (repeat (first | refine awp_seq ?_ | refine awp_block ?_ | ((first | refine awp_skip ?_ | refine awp_exit ?_ | refine awp_reg ttok ?_ | (refine awp_draw ttok ?dr_calm ?_; (case dr_calm => decide +kernel)) | refine awp_condM ?_); simp (maxSteps := 4000000) only [↓reduceIte, Nat.reduceLT, Nat.reduceEqDiff, reduceCtorEq, Nat.reduceAdd, Nat.reduceMul, Int.reduceLE, Int.reduceLT, Int.reduceToNat, Nat.reduceLeDiff, Nat.reduceSub, Int.reduceEq, Nat.reduceBEq, List.replicate, List.set, if_false, if_true, ne_eq, false_implies, implies_true, evD0, evD1, evD2, evD3, evD4, evD5, evD6, evT, tyA0, tyA1, tyA2, tyA3, tyA4, tyA5, tyA6, tyA7, tyA8]; (repeat (with_reducible refine And.intro ?_ ?_; focus ((repeat' with_reducible apply And.intro) <;> (first | omega | with_reducible trivial | with_reducible assumption)))); (with_reducible first | refine awp_id ?_ | refine id_call ?_ | refine id_and ?_ | refine id_ex ?_ | refine id_all ?_ | refine id_le ?_))))
      exact awp_ret (ends_plain (.inr rfl) rfl (by simp (maxSteps := 4000000) only [↓reduceIte, Nat.reduceLT, Nat.reduceEqDiff, reduceCtorEq, Nat.reduceAdd, Nat.reduceMul, Int.reduceLE, Int.reduceLT, Int.reduceToNat, Nat.reduceLeDiff, Nat.reduceSub, Int.reduceEq, Nat.reduceBEq, List.replicate, List.set, if_false, if_true, ne_eq, false_implies, implies_true, evD0, evD1, evD2, evD3, evD4, evD5, evD6, evT]))

end Go.Proofs.Ytfllndodnhmhkaa
