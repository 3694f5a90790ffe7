/-
  The contracts of package journal.
-/
import Derived.Test.YtmfonlkigjpjcaaFrAllC
import Derived.Test.YtmfonlkigjpjcaaAbE
namespace Go.Proofs.Ytmfonlkigjpjcaa
open Go.Ab
set_option linter.unusedSimpArgs false
set_option linter.unusedVariables false

def zer (n : Nat) : List UInt8 := List.replicate n 0
theorem zer_len (n : Nat) : (zer n).length = n := by simp [zer]
theorem zer_get (n i : Nat) : (zer n).getD i 0 = 0 := by
  simp only [zer, List.getD, List.getElem?_replicate]
  split <;> rfl
theorem zer_rows (n : Nat) : List.replicate n (List.map ofAtom (Value.int IntKind.u8 0).cells.toList) = bys (zer n) := by simp [zer, bys, Value.cells, ofAtom]
theorem noI_bys (l : List UInt8) : AObj.noI { sz := 1, rows := bys l } = true := by
  simp [AObj.noI, bys, D.noIL, D.noI]

theorem c_jNew (a : Int) (A : Nat) (hA : A = min a.toNat 1) : Contract Try.prog 17 [i64 a] (.ptr 0 0 0) [{ sz := 3, rows := [[i64 A, .own 1 0 992, i64 0]], flat := false }, { sz := 1, rows := bys (zer 992) }] := by
  refine contract_of_awp (rs := [2]) Try.func17 rfl Try.ntmps17 (by simp) rfl fun E => ?_
  have hmax : (if (0 : Int) > a then (0 : Int) else a) = (a.toNat : Int) := by split <;> omega
  have hmin : (if (1 : Int) < (a.toNat : Int) then (1 : Int) else (a.toNat : Int)) = (A : Int) := by omega
  have hz := zer_rows 992
  (repeat (first | refine awp_seq ?_ | refine awp_block ?_ | ((first | refine awp_skip ?_ | refine awp_exit ?_ | refine awp_reg ttok ?_ | (refine awp_draw ttok ?dr_calm ?_; (case dr_calm => decide +kernel)) | refine awp_condM ?_); simp (maxSteps := 4000000) only [↓reduceIte, Nat.reduceLT, Nat.reduceEqDiff, reduceCtorEq, Nat.reduceAdd, Nat.reduceMul, Int.reduceLE, Int.reduceLT, Int.reduceToNat, Nat.reduceLeDiff, Nat.reduceSub, Int.reduceEq, Nat.reduceBEq, List.replicate, List.set, if_false, if_true, ne_eq, false_implies, implies_true, evA, tyA, hmax, hmin, hz]; (repeat (with_reducible refine And.intro ?_ ?_; focus ((repeat' with_reducible apply And.intro) <;> (first | omega | with_reducible trivial | with_reducible assumption)))); (with_reducible first | refine awp_id ?_ | refine id_call ?_ | refine id_and ?_ | refine id_ex ?_ | refine id_all ?_ | refine id_le ?_))))
  exact awp_ret (endsO [2005, 2003] (.inr rfl) (by simp (maxSteps := 4000000) only [↓reduceIte, Nat.reduceLT, Nat.reduceEqDiff, reduceCtorEq, Nat.reduceAdd, Nat.reduceMul, Int.reduceLE, Int.reduceLT, Int.reduceToNat, Nat.reduceLeDiff, Nat.reduceSub, Int.reduceEq, Nat.reduceBEq, List.replicate, List.set, if_false, if_true, ne_eq, false_implies, implies_true, evA]) (by simp (maxSteps := 4000000) only [↓reduceIte, Nat.reduceLT, Nat.reduceEqDiff, reduceCtorEq, Nat.reduceAdd, Nat.reduceMul, Int.reduceLE, Int.reduceLT, Int.reduceToNat, Nat.reduceLeDiff, Nat.reduceSub, Int.reduceEq, Nat.reduceBEq, List.replicate, List.set, if_false, if_true, ne_eq, false_implies, implies_true, evA]; try rfl))

section
variable (M : List UInt8) (a t : Int)
theorem c_jArea : Contract Try.prog 12 [.ref [i64 a, .sl false (bys M), i64 t] 0] (i64 a) [] := by
  refine contract_of_awp (rs := [2]) Try.func12 rfl Try.ntmps12 (by simp) rfl fun E => ?_
  (repeat (first | refine awp_seq ?_ | refine awp_block ?_ | ((first | refine awp_skip ?_ | refine awp_exit ?_ | refine awp_reg ttok ?_ | (refine awp_draw ttok ?dr_calm ?_; (case dr_calm => decide +kernel)) | refine awp_condM ?_); simp (maxSteps := 4000000) only [↓reduceIte, Nat.reduceLT, Nat.reduceEqDiff, reduceCtorEq, Nat.reduceAdd, Nat.reduceMul, Int.reduceLE, Int.reduceLT, Int.reduceToNat, Nat.reduceLeDiff, Nat.reduceSub, Int.reduceEq, Nat.reduceBEq, List.replicate, List.set, if_false, if_true, ne_eq, false_implies, implies_true, evA, tyA]; (repeat (with_reducible refine And.intro ?_ ?_; focus ((repeat' with_reducible apply And.intro) <;> (first | omega | with_reducible trivial | with_reducible assumption)))); (with_reducible first | refine awp_id ?_ | refine id_call ?_ | refine id_and ?_ | refine id_ex ?_ | refine id_all ?_ | refine id_le ?_))))
  exact awp_ret (ends_plain (.inr rfl) rfl (by simp (maxSteps := 4000000) only [↓reduceIte, Nat.reduceLT, Nat.reduceEqDiff, reduceCtorEq, Nat.reduceAdd, Nat.reduceMul, Int.reduceLE, Int.reduceLT, Int.reduceToNat, Nat.reduceLeDiff, Nat.reduceSub, Int.reduceEq, Nat.reduceBEq, List.replicate, List.set, if_false, if_true, ne_eq, false_implies, implies_true, evA]))
theorem c_jRoom (h0 : 0 ≤ t) (h1 : t ≤ 992) : Contract Try.prog 25 [.ref [i64 a, .sl false (bys M), i64 t] 0] (i64 (992 - t)) [] := by
  refine contract_of_awp (rs := [2]) Try.func25 rfl Try.ntmps25 (by simp) rfl fun E => ?_
  have hw : IntKind.i64.wrap (992 - t) = 992 - t := i64_in (by omega) (by omega)
  (repeat (first | refine awp_seq ?_ | refine awp_block ?_ | ((first | refine awp_skip ?_ | refine awp_exit ?_ | refine awp_reg ttok ?_ | (refine awp_draw ttok ?dr_calm ?_; (case dr_calm => decide +kernel)) | refine awp_condM ?_); simp (maxSteps := 4000000) only [↓reduceIte, Nat.reduceLT, Nat.reduceEqDiff, reduceCtorEq, Nat.reduceAdd, Nat.reduceMul, Int.reduceLE, Int.reduceLT, Int.reduceToNat, Nat.reduceLeDiff, Nat.reduceSub, Int.reduceEq, Nat.reduceBEq, List.replicate, List.set, if_false, if_true, ne_eq, false_implies, implies_true, evA, tyA, hw]; (repeat (with_reducible refine And.intro ?_ ?_; focus ((repeat' with_reducible apply And.intro) <;> (first | omega | with_reducible trivial | with_reducible assumption)))); (with_reducible first | refine awp_id ?_ | refine id_call ?_ | refine id_and ?_ | refine id_ex ?_ | refine id_all ?_ | refine id_le ?_))))
  exact awp_ret (ends_plain (.inr rfl) rfl (by simp (maxSteps := 4000000) only [↓reduceIte, Nat.reduceLT, Nat.reduceEqDiff, reduceCtorEq, Nat.reduceAdd, Nat.reduceMul, Int.reduceLE, Int.reduceLT, Int.reduceToNat, Nat.reduceLeDiff, Nat.reduceSub, Int.reduceEq, Nat.reduceBEq, List.replicate, List.set, if_false, if_true, ne_eq, false_implies, implies_true, evA]))
end

/-- A block's bytes. -/
def blkB (M : List UInt8) (i : Nat) : List UInt8 := (M.drop (32 * i)).take 32
theorem blkB_len {M : List UInt8} {i : Nat} (hl : M.length = 992) (hi : i < 31) : (blkB M i).length = 32 := by simp [blkB]; omega

set_option maxHeartbeats 4000000 in
theorem c_jBlock (M : List UInt8) (A : Nat) (t : Int) (i : Nat) (hl : M.length = 992) (hA : A ≤ 1) (hi : i < 31) :
    Contract Try.prog 26 [.ref [i64 A, .sl false (bys M), i64 t] 0, i64 i] (.agg [i64 (32 * A + 1 + i : Nat), .own 0 0 32]) [{ sz := 1, rows := bys (blkB M i) }] := by
  refine contract_of_awpV (rs := [.cell 4 62]) ttok Try.func26 rfl Try.ntmps26 (by simp) rfl fun E => ?_
  have hb := blkB_len hl hi
  have hc := c_CloneB false (blkB M i) (by omega)
  rw [hb] at hc
  have w1 : IntKind.i64.wrap ((i : Int) * 32) = ((32 * i : Nat) : Int) := by rw [i64_in (by omega) (by omega)]; omega
  have w2 : IntKind.i64.wrap ((A : Int) * 32) = ((32 * A : Nat) : Int) := by rw [i64_in (by omega) (by omega)]; omega
  have w3 : IntKind.i64.wrap (((32 * A : Nat) : Int) + 1) = ((32 * A + 1 : Nat) : Int) := by rw [i64_in (by omega) (by omega)]; omega
  have w4 : IntKind.i64.wrap (((32 * A + 1 : Nat) : Int) + (i : Int)) = ((32 * A + 1 + i : Nat) : Int) := by rw [i64_in (by omega) (by omega)]; omega
  have w5 : IntKind.i64.wrap (((32 * i : Nat) : Int) + 32) = ((32 * i + 32 : Nat) : Int) := by rw [i64_in (by omega) (by omega)]; omega
  have hsub : 32 * i + 32 - 32 * i = 32 := by omega
  have hbd : List.take 32 (List.drop (32 * i) M) = blkB M i := rfl
  (repeat (first | refine awp_seq ?_ | refine awp_block ?_ | ((first | refine awp_skip ?_ | refine awp_exit ?_ | refine awp_reg ttok ?_ | (refine awp_draw ttok ?dr_calm ?_; (case dr_calm => decide +kernel)) | refine awp_condM ?_); simp (maxSteps := 4000000) only [↓reduceIte, Nat.reduceLT, Nat.reduceEqDiff, reduceCtorEq, Nat.reduceAdd, Nat.reduceMul, Int.reduceLE, Int.reduceLT, Int.reduceToNat, Nat.reduceLeDiff, Nat.reduceSub, Int.reduceEq, Nat.reduceBEq, List.replicate, List.set, if_false, if_true, ne_eq, false_implies, implies_true, evA, tyA, w1]; (repeat (with_reducible refine And.intro ?_ ?_; focus ((repeat' with_reducible apply And.intro) <;> (first | omega | with_reducible trivial | with_reducible assumption)))); (with_reducible first | refine awp_id ?_ | refine id_call ?_ | refine id_and ?_ | refine id_ex ?_ | refine id_all ?_ | refine id_le ?_))))
  refine awp_drawG ttok ((0, none) :: (1, none) :: (2, none) :: (3, none) :: (4, none) :: (5, none) :: (6, none) :: (7, none) :: (8, none) :: (9, none) :: (10, none) :: (11, none) :: (12, none) :: (13, none) :: (14, none) :: (15, none) :: (16, some [0, 1, 2, 3, 4, 5, 6, 7]) :: (17, none) :: (18, some []) :: []) ([]) ([]) (by decide +kernel) fun O hO => ?_; simp only [OpsAre, Nat.reduceAdd, and_true, List.toList_toArray, List.append_eq, List.cons_append, List.nil_append] at hO; simp (maxSteps := 4000000) only [↓reduceIte, Nat.reduceLT, Nat.reduceEqDiff, reduceCtorEq, Nat.reduceAdd, Nat.reduceMul, Int.reduceLE, Int.reduceLT, Int.reduceToNat, Nat.reduceLeDiff, Nat.reduceSub, Int.reduceEq, Nat.reduceBEq, List.replicate, List.set, if_false, if_true, ne_eq, false_implies, implies_true, evA, tyA, hO, w1, w2, w3, w4, w5, hsub, hbd, hl]; (repeat (with_reducible refine And.intro ?_ ?_; focus ((repeat' with_reducible apply And.intro) <;> (first | omega | with_reducible trivial | with_reducible assumption))))
  refine callVC_mk fnok39 hc rfl ?_
  simp (maxSteps := 4000000) only [↓reduceIte, Nat.reduceLT, Nat.reduceEqDiff, reduceCtorEq, Nat.reduceAdd, Nat.reduceMul, Int.reduceLE, Int.reduceLT, Int.reduceToNat, Nat.reduceLeDiff, Nat.reduceSub, Int.reduceEq, Nat.reduceBEq, List.replicate, List.set, if_false, if_true, ne_eq, false_implies, implies_true, evA, tyA, hO, w2, w3, w4, w5, hsub, hbd, hl]
  (repeat (with_reducible refine And.intro ?_ ?_; focus ((repeat' with_reducible apply And.intro) <;> (first | omega | with_reducible trivial | with_reducible assumption))))
  clear hO
  (repeat (first | refine awp_seq ?_ | refine awp_block ?_ | ((first | refine awp_skip ?_ | refine awp_exit ?_ | refine awp_reg ttok ?_ | (refine awp_draw ttok ?dr_calm ?_; (case dr_calm => decide +kernel)) | refine awp_condM ?_); simp (maxSteps := 4000000) only [↓reduceIte, Nat.reduceLT, Nat.reduceEqDiff, reduceCtorEq, Nat.reduceAdd, Nat.reduceMul, Int.reduceLE, Int.reduceLT, Int.reduceToNat, Nat.reduceLeDiff, Nat.reduceSub, Int.reduceEq, Nat.reduceBEq, List.replicate, List.set, if_false, if_true, ne_eq, false_implies, implies_true, evA, tyA]; (repeat (with_reducible refine And.intro ?_ ?_; focus ((repeat' with_reducible apply And.intro) <;> (first | omega | with_reducible trivial | with_reducible assumption)))); (with_reducible first | refine awp_id ?_ | refine id_call ?_ | refine id_and ?_ | refine id_ex ?_ | refine id_all ?_ | refine id_le ?_))))
  exact awp_ret (endsV [103016] (.inr rfl) (by simp (maxSteps := 4000000) only [↓reduceIte, Nat.reduceLT, Nat.reduceEqDiff, reduceCtorEq, Nat.reduceAdd, Nat.reduceMul, Int.reduceLE, Int.reduceLT, Int.reduceToNat, Nat.reduceLeDiff, Nat.reduceSub, Int.reduceEq, Nat.reduceBEq, List.replicate, List.set, if_false, if_true, ne_eq, false_implies, implies_true, evA, tyA]; rfl) (by simp (maxSteps := 4000000) only [↓reduceIte, Nat.reduceLT, Nat.reduceEqDiff, reduceCtorEq, Nat.reduceAdd, Nat.reduceMul, Int.reduceLE, Int.reduceLT, Int.reduceToNat, Nat.reduceLeDiff, Nat.reduceSub, Int.reduceEq, Nat.reduceBEq, List.replicate, List.set, if_false, if_true, ne_eq, false_implies, implies_true, evA]; try rfl))

/-- What is planned, as rows. -/
def wrs (l : List (Nat × List UInt8)) : List (List D) := l.map fun w => [i64 w.1, .sl false (bys w.2)]
theorem wrs_len (l : List (Nat × List UInt8)) : (wrs l).length = l.length := by simp [wrs]
theorem wrs_row (l : List (Nat × List UInt8)) : (∀ row ∈ wrs l, row.length = 2) = True := by
  simp only [wrs, List.mem_map, eq_iff_iff, iff_true]
  rintro row ⟨x, _, rfl⟩; rfl
theorem wrs_get {l : List (Nat × List UInt8)} {i : Nat} (h : i < l.length) : (wrs l).getD i [] = [i64 (l.getD i (0, [])).1, .sl false (bys (l.getD i (0, [])).2)] := by
  simp [wrs, List.getD, List.getElem?_eq_getElem h]
theorem wrs_app (l m : List (Nat × List UInt8)) : wrs l ++ wrs m = wrs (l ++ m) := by simp [wrs]
theorem wrs_one (k : Nat) (z : List UInt8) : [[i64 (k : Int), D.sl false (bys z)]] = wrs [(k, z)] := rfl
theorem wrs_take (l : List (Nat × List UInt8)) (k : Nat) : (wrs l).take k = wrs (l.take k) := by simp [wrs]

/-- Blocks from one on. -/
def blks (A : Nat) (M : List UInt8) (fr k : Nat) : List (Nat × List UInt8) := (List.range k).map fun j => (32 * A + 1 + (fr + j), blkB M (fr + j))
theorem blks_len (A : Nat) (M : List UInt8) (fr k : Nat) : (blks A M fr k).length = k := by simp [blks]
theorem blks_succ (A : Nat) (M : List UInt8) (fr k : Nat) : blks A M fr (k + 1) = blks A M fr k ++ [(32 * A + 1 + (fr + k), blkB M (fr + k))] := by simp [blks, List.range_succ]
theorem blks_get (A : Nat) (M : List UInt8) (fr : Nat) {k j : Nat} (h : j < k) : (blks A M fr k).getD j (0, []) = (32 * A + 1 + (fr + j), blkB M (fr + j)) := by
  simp [blks, List.getD, h]

set_option maxHeartbeats 4000000 in
theorem c_jWhole (M : List UInt8) (A : Nat) (t : Int) (hl : M.length = 992) (hA : A ≤ 1) :
    Contract Try.prog 19 [.ref [i64 A, .sl false (bys M), i64 t] 0] (.own 0 0 31) [{ sz := 2, rows := wrs (blks A M 0 31) }] := by
  refine contract_of_awp (rs := [2]) Try.func19 rfl Try.ntmps19 (by simp) rfl fun E => ?_
  (repeat (first | refine awp_seq ?_ | refine awp_block ?_ | ((first | refine awp_skip ?_ | refine awp_exit ?_ | refine awp_reg ttok ?_ | (refine awp_draw ttok ?dr_calm ?_; (case dr_calm => decide +kernel)) | refine awp_condM ?_); simp (maxSteps := 4000000) only [↓reduceIte, Nat.reduceLT, Nat.reduceEqDiff, reduceCtorEq, Nat.reduceAdd, Nat.reduceMul, Int.reduceLE, Int.reduceLT, Int.reduceToNat, Nat.reduceLeDiff, Nat.reduceSub, Int.reduceEq, Nat.reduceBEq, List.replicate, List.set, if_false, if_true, ne_eq, false_implies, implies_true, evA, tyA]; (repeat (with_reducible refine And.intro ?_ ?_; focus ((repeat' with_reducible apply And.intro) <;> (first | omega | with_reducible trivial | with_reducible assumption)))); (with_reducible first | refine awp_id ?_ | refine id_call ?_ | refine id_and ?_ | refine id_ex ?_ | refine id_all ?_ | refine id_le ?_))))
  refine awp_own_nil 3 9000 2 (by simp (maxSteps := 4000000) only [↓reduceIte, Nat.reduceLT, Nat.reduceEqDiff, reduceCtorEq, Nat.reduceAdd, Nat.reduceMul, Int.reduceLE, Int.reduceLT, Int.reduceToNat, Nat.reduceLeDiff, Nat.reduceSub, Int.reduceEq, Nat.reduceBEq, List.replicate, List.set, if_false, if_true, ne_eq, false_implies, implies_true, evA]) (by decide) ?_
  refine awp_loop (X := Nat) (fun i => mkS 18 [(0, .ref [i64 A, .sl false (bys M), i64 t] 0), (3, .own 9000 0 i), (7, i64 i)] [(9000, { sz := 2, rows := wrs (blks A M 0 i) })]) (fun i => i ≤ 31) (fun i => 31 - i) 0 (by omega) (mkS_le rfl ?_ ?_) ?_
  · simp (maxSteps := 4000000) only [↓reduceIte, Nat.reduceLT, Nat.reduceEqDiff, reduceCtorEq, Nat.reduceAdd, Nat.reduceMul, Int.reduceLE, Int.reduceLT, Int.reduceToNat, Nat.reduceLeDiff, Nat.reduceSub, Int.reduceEq, Nat.reduceBEq, List.replicate, List.set, if_false, if_true, ne_eq, false_implies, implies_true, evA, St.toOwn]
    try rfl
  · simp (maxSteps := 4000000) only [↓reduceIte, Nat.reduceLT, Nat.reduceEqDiff, reduceCtorEq, Nat.reduceAdd, Nat.reduceMul, Int.reduceLE, Int.reduceLT, Int.reduceToNat, Nat.reduceLeDiff, Nat.reduceSub, Int.reduceEq, Nat.reduceBEq, List.replicate, List.set, if_false, if_true, ne_eq, false_implies, implies_true, evA, St.toOwn]
    try rfl
  · intro i hi
    have hbl := blks_len A M 0 i
    by_cases hlt : i < 31
    · have d1 : decide ((i : Int) < 31) = true := by simp; omega
      have hs := (blks_succ A M 0 i).symm
      rw [Nat.zero_add] at hs
      have hone := wrs_one (32 * A + 1 + i) (blkB M i)
      have hbk := blkB_len hl hlt
      have hbt : List.take 32 (blkB M i) = blkB M i := List.take_of_length_le (by omega)
      have hta : List.take i (blks A M 0 i) = blks A M 0 i := List.take_of_length_le (by omega)
      have hwi : IntKind.i64.wrap ((i : Int) + 1) = ((i + 1 : Nat) : Int) := i64_in (by omega) (by omega)
      (repeat (first | refine awp_seq ?_ | refine awp_block ?_ | ((first | refine awp_skip ?_ | refine awp_exit ?_ | refine awp_reg ttok ?_ | (refine awp_draw ttok ?dr_calm ?_; (case dr_calm => decide +kernel)) | refine awp_condM ?_); simp (maxSteps := 4000000) only [↓reduceIte, Nat.reduceLT, Nat.reduceEqDiff, reduceCtorEq, Nat.reduceAdd, Nat.reduceMul, Int.reduceLE, Int.reduceLT, Int.reduceToNat, Nat.reduceLeDiff, Nat.reduceSub, Int.reduceEq, Nat.reduceBEq, List.replicate, List.set, if_false, if_true, ne_eq, false_implies, implies_true, evA, tyA, d1]; (repeat (with_reducible refine And.intro ?_ ?_; focus ((repeat' with_reducible apply And.intro) <;> (first | omega | with_reducible trivial | with_reducible assumption)))); (with_reducible first | refine awp_id ?_ | refine id_call ?_ | refine id_and ?_ | refine id_ex ?_ | refine id_all ?_ | refine id_le ?_))))
      refine callVC_mk fnok26 (c_jBlock M A t i hl hA hlt) rfl ?_
      simp (maxSteps := 4000000) only [↓reduceIte, Nat.reduceLT, Nat.reduceEqDiff, reduceCtorEq, Nat.reduceAdd, Nat.reduceMul, Int.reduceLE, Int.reduceLT, Int.reduceToNat, Nat.reduceLeDiff, Nat.reduceSub, Int.reduceEq, Nat.reduceBEq, List.replicate, List.set, if_false, if_true, ne_eq, false_implies, implies_true, evA, tyA, hbk, hbt, hone, wrs_len, wrs_row, wrs_take, wrs_app, hbl, hta, hs]
      (repeat (with_reducible refine And.intro ?_ ?_; focus ((repeat' with_reducible apply And.intro) <;> (first | omega | with_reducible trivial | with_reducible assumption))))
      (repeat (first | refine awp_seq ?_ | refine awp_block ?_ | ((first | refine awp_skip ?_ | refine awp_exit ?_ | refine awp_reg ttok ?_ | (refine awp_draw ttok ?dr_calm ?_; (case dr_calm => decide +kernel)) | refine awp_condM ?_); simp (maxSteps := 4000000) only [↓reduceIte, Nat.reduceLT, Nat.reduceEqDiff, reduceCtorEq, Nat.reduceAdd, Nat.reduceMul, Int.reduceLE, Int.reduceLT, Int.reduceToNat, Nat.reduceLeDiff, Nat.reduceSub, Int.reduceEq, Nat.reduceBEq, List.replicate, List.set, if_false, if_true, ne_eq, false_implies, implies_true, evA, tyA, hwi]; (repeat (with_reducible refine And.intro ?_ ?_; focus ((repeat' with_reducible apply And.intro) <;> (first | omega | with_reducible trivial | with_reducible assumption)))); (with_reducible first | refine awp_id ?_ | refine id_call ?_ | refine id_and ?_ | refine id_ex ?_ | refine id_all ?_ | refine id_le ?_))))
      refine ⟨i + 1, by omega, by omega, mkS_le rfl ?_ ?_⟩
      · simp (maxSteps := 4000000) only [↓reduceIte, Nat.reduceLT, Nat.reduceEqDiff, reduceCtorEq, Nat.reduceAdd, Nat.reduceMul, Int.reduceLE, Int.reduceLT, Int.reduceToNat, Nat.reduceLeDiff, Nat.reduceSub, Int.reduceEq, Nat.reduceBEq, List.replicate, List.set, if_false, if_true, ne_eq, false_implies, implies_true, evA]
      · simp (maxSteps := 4000000) only [↓reduceIte, Nat.reduceLT, Nat.reduceEqDiff, reduceCtorEq, Nat.reduceAdd, Nat.reduceMul, Int.reduceLE, Int.reduceLT, Int.reduceToNat, Nat.reduceLeDiff, Nat.reduceSub, Int.reduceEq, Nat.reduceBEq, List.replicate, List.set, if_false, if_true, ne_eq, false_implies, implies_true, evA]
    · have d1 : decide ((i : Int) < 31) = false := by simp; omega
      obtain rfl : i = 31 := by omega
      (repeat (first | refine awp_seq ?_ | refine awp_block ?_ | ((first | refine awp_skip ?_ | refine awp_exit ?_ | refine awp_reg ttok ?_ | (refine awp_draw ttok ?dr_calm ?_; (case dr_calm => decide +kernel)) | refine awp_condM ?_); simp (maxSteps := 4000000) only [↓reduceIte, Nat.reduceLT, Nat.reduceEqDiff, reduceCtorEq, Nat.reduceAdd, Nat.reduceMul, Int.reduceLE, Int.reduceLT, Int.reduceToNat, Nat.reduceLeDiff, Nat.reduceSub, Int.reduceEq, Nat.reduceBEq, List.replicate, List.set, if_false, if_true, ne_eq, false_implies, implies_true, evA, tyA, d1]; (repeat (with_reducible refine And.intro ?_ ?_; focus ((repeat' with_reducible apply And.intro) <;> (first | omega | with_reducible trivial | with_reducible assumption)))); (with_reducible first | refine awp_id ?_ | refine id_call ?_ | refine id_and ?_ | refine id_ex ?_ | refine id_all ?_ | refine id_le ?_))))
      exact awp_ret (ends_own (g := 9000) (.inr rfl) (by simp (maxSteps := 4000000) only [↓reduceIte, Nat.reduceLT, Nat.reduceEqDiff, reduceCtorEq, Nat.reduceAdd, Nat.reduceMul, Int.reduceLE, Int.reduceLT, Int.reduceToNat, Nat.reduceLeDiff, Nat.reduceSub, Int.reduceEq, Nat.reduceBEq, List.replicate, List.set, if_false, if_true, ne_eq, false_implies, implies_true, evA]) (by simp (maxSteps := 4000000) only [↓reduceIte, Nat.reduceLT, Nat.reduceEqDiff, reduceCtorEq, Nat.reduceAdd, Nat.reduceMul, Int.reduceLE, Int.reduceLT, Int.reduceToNat, Nat.reduceLeDiff, Nat.reduceSub, Int.reduceEq, Nat.reduceBEq, List.replicate, List.set, if_false, if_true, ne_eq, false_implies, implies_true, evA]) rfl)

end Go.Proofs.Ytmfonlkigjpjcaa
