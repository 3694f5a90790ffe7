import Derived.Test.YtglcnghfmdcdpaaEnds
import Derived.Test.YtglcnghfmdcdpaaIdx
import Derived.Test.YtglcnghfmdcdpaaRows
import Derived.Test.YtglcnghfmdcdpaaFin
set_option linter.unusedSimpArgs false
set_option linter.unusedVariables false
namespace Go.Proofs.Ytglcnghfmdcdpaa
open Go.Ab
def nilD : D := .sl true []
def shR (l : List (List Int)) (k : Nat) : List (List D) := (iis l).take k ++ (iis l ++ [[nilD]]).getD k [] :: (iis l).drop k
theorem shR_all (l : List (List Int)) : iis l ++ [[nilD]] = shR l l.length := by
  have e := iis_len l
  unfold shR
  rw [← e, List.take_length, List.drop_length]
  simp [List.getD]
theorem shR_len {l : List (List Int)} {k : Nat} (h : k ≤ l.length) : (shR l k).length = l.length + 1 := by
  simp [shR, iis_len]; omega
theorem shR_row (l : List (List Int)) (k : Nat) (h : k ≤ l.length) : (∀ row ∈ shR l k, row.length = 1) = True := by
  refine eq_true fun row hr => ?_
  have hi : ∀ row ∈ iis l, row.length = 1 := by have := iis_row l; simpa using this
  rcases List.mem_append.1 hr with q | q
  · exact hi _ (List.mem_of_mem_take q)
  · rcases List.mem_cons.1 q with q | q
    · subst q
      rcases Nat.lt_or_ge k l.length with z | z
      · have z2 : k < (iis l).length := by rw [iis_len]; exact z
        simp only [List.getD, List.getElem?_append_left z2, List.getElem?_eq_getElem z2, Option.getD_some]
        exact hi _ (List.getElem_mem _)
      · obtain rfl : k = l.length := by omega
        simp [List.getD, iis_len]
    · exact hi _ (List.mem_of_mem_drop q)
theorem shR_get {l : List (List Int)} {k : Nat} (h : k ≤ l.length) (h0 : 0 < k) : (shR l k).getD (k - 1) [] = [.sl false (ints (l.getD (k - 1) []))] := by
  rw [← iis_get (by omega)]
  have e := iis_len l
  unfold shR
  simp only [List.getD]
  rw [List.getElem?_append_left (by simp; omega), List.getElem?_take, if_pos (by omega)]
theorem shR_set {l : List (List Int)} {k : Nat} (h : k ≤ l.length) (h0 : 0 < k) : (shR l k).set k [.sl false (ints (l.getD (k - 1) []))] = shR l (k - 1) := by
  rw [← iis_get (show k - 1 < l.length by omega)]
  have e := iis_len l
  unfold shR
  rw [← e] at h
  rw [show (iis l ++ [[nilD]]).getD (k - 1) [] = (iis l).getD (k - 1) [] by simp only [List.getD]; rw [List.getElem?_append_left (by omega)]]
  generalize iis l = m at *
  rw [List.set_append, if_neg (by simp; omega)]
  rw [show k - (m.take k).length = 0 by simp; omega, List.set_cons_zero]
  have hk : k - 1 < m.length := by omega
  have e1 : m.take k = m.take (k - 1) ++ [m.getD (k - 1) []] := by
    conv => lhs; rw [show k = k - 1 + 1 by omega, List.take_add_one]
    rw [List.getD_eq_getElem?_getD, List.getElem?_eq_getElem hk]; rfl
  have e2 : m.drop (k - 1) = m.getD (k - 1) [] :: m.drop k := by
    rw [List.drop_eq_getElem_cons hk, show k - 1 + 1 = k by omega, List.getD_eq_getElem?_getD, List.getElem?_eq_getElem hk]; rfl
  rw [e1, e2]; simp
theorem shR_drop {l : List (List Int)} {k : Nat} (h : k ≤ l.length) : List.drop 1 ((shR l k).getD k []) = [] := by
  have hr : ∀ row ∈ shR l k, row.length = 1 := by have := shR_row l k h; simpa using this
  have hl := shR_len h
  have hk : k < (shR l k).length := by omega
  rw [List.getD_eq_getElem?_getD, List.getElem?_eq_getElem hk]
  have := hr _ (List.getElem_mem hk)
  exact List.drop_eq_nil_of_le (by show ((shR l k)[k]).length ≤ 1; omega)
theorem shR_end {l : List (List Int)} {k : Nat} (h : k ≤ l.length) (x : List Int) : (shR l k).set k [.sl false (ints x)] = iis (l.take k ++ x :: l.drop k) := by
  have e := iis_len l
  unfold shR
  rw [List.set_append, if_neg (by simp; omega)]
  rw [show k - ((iis l).take k).length = 0 by simp; omega, List.set_cons_zero]
  simp [iis, List.map_take, List.map_drop]
set_option maxRecDepth 20000 in
set_option maxHeartbeats 32000000 in
theorem c_WordsAll (f : Bool) (l : List (Int × Int × Int)) (fin z0 z1 z2 : Int) (hl : l.length ≤ 9223372036854775807) :
    Contract Try.prog 3 [.sl f (tri l), i64 fin, .agg [i64 z0, i64 z1, i64 z2]] (bo true) [] := by
  refine contract_of_awp2V ttok (rs := [.cell 6 4]) Try.func3 rfl Try.ntmps3 (by simp) rfl fun E hE => ?_
  have hD := c_Dfa f l fin z0 z1 hl
  have hL := labD_le z0
  have hk := numD_le z1
  have hst := startD_lt z1
  have hok := nextD_ok (L := labD z0) hk.1 l
  have hF := finD_len fin (numD z1)
  generalize nextD (labD z0) (numD z1) l = N at *
  generalize labD z0 = L at *
  generalize finD fin (numD z1) = F at *
  generalize numD z1 = k at *
  generalize startD z1 = st at *
  obtain ⟨mo, hmo, hmw0⟩ := and_low z2 3 (by decide)
  have hmw : IntKind.i64.wrap ((BitVec.ofInt IntKind.i64.bits z2 &&& BitVec.ofInt IntKind.i64.bits 3).toNat : Int) = (mo : Int) := hmw0
  obtain ⟨ma, hma, hmx0⟩ := and_low (z2.fdiv (2 ^ min 2 IntKind.i64.bits)) 15 (by decide)
  have hmx : IntKind.i64.wrap ((BitVec.ofInt IntKind.i64.bits (z2.fdiv (2 ^ min 2 IntKind.i64.bits)) &&& BitVec.ofInt IntKind.i64.bits 15).toNat : Int) = (ma : Int) := hmx0
  have hU := c_Upto L mo hL (by omega)
  have hEd := fun (w : List Int) (hw : w.length ≤ 3) => c_Ends hok st F hF hL hk st (by omega) false w (by omega)
  have hUm : ∀ i, i < (uptoL L mo).length → ((uptoL L mo).getD i []).length ≤ mo := fun i hi => (uptoL_mem.1 (getD_mem hi [])).1
  have hUl : (uptoL L mo).length ≤ 6 * 1048576 := by
    have := uptoP_len (L := L) (n := mo) (by omega) (by omega) (mo + 1) (by omega)
    rw [uptoP_all] at this
    exact Nat.le_trans this (Nat.mul_le_mul_right _ (by omega))
  have hwf := want_from hok hF (n := mo) hst
  have hit := c_All1 hok (by omega) (by omega) st hst F hF (mo : Int)
  rw [show mostN (mo : Int) = mo by unfold mostN; omega] at hit
  generalize uptoL L mo = U at *
  (refine awp2_seqL (awp_reg ttok ?_); simp (maxSteps := 4000000) only [↓reduceIte, Nat.reduceLT, Nat.reduceEqDiff, reduceCtorEq, Nat.reduceAdd, Nat.reduceMul, Int.reduceLE, Int.reduceLT, Int.reduceToNat, Nat.reduceLeDiff, Nat.reduceSub, Int.reduceEq, Nat.reduceBEq, evB, tyA, then2_n]; (repeat (with_reducible refine And.intro ?_ ?_; exact sdX)))
  refine awp2_seqL ?_
  (repeat (first | refine awp_seq ?_ | refine awp_block ?_ | ((first | refine awp_skip ?_ | refine awp_exit ?_ | refine awp_reg ttok ?_ | (refine awp_draw ttok ?dr_calm ?_; (case dr_calm => decide +kernel)) | refine awp_condM ?_); simp (maxSteps := 4000000) only [↓reduceIte, Nat.reduceLT, Nat.reduceEqDiff, reduceCtorEq, Nat.reduceAdd, Nat.reduceMul, Int.reduceLE, Int.reduceLT, Int.reduceToNat, Nat.reduceLeDiff, Nat.reduceSub, Int.reduceEq, Nat.reduceBEq, evB, tyA]; (repeat (with_reducible refine And.intro ?_ ?_; exact sdX)); (with_reducible first | refine awp_id ?_ | refine id_call ?_ | refine id_and ?_ | refine id_ex ?_ | refine id_all ?_ | refine id_nat ?_ | refine id_le ?_))))
  refine callVC_scal fnok6 c_awake22 rfl ?_
  simp (maxSteps := 4000000) only [↓reduceIte, Nat.reduceLT, Nat.reduceEqDiff, reduceCtorEq, Nat.reduceAdd, Nat.reduceMul, Int.reduceLE, Int.reduceLT, Int.reduceToNat, Nat.reduceLeDiff, Nat.reduceSub, Int.reduceEq, Nat.reduceBEq, evB, tyA]
  (repeat (with_reducible refine And.intro ?_ ?_; exact sdX))
  (repeat (first | refine awp_seq ?_ | refine awp_block ?_ | ((first | refine awp_skip ?_ | refine awp_exit ?_ | refine awp_reg ttok ?_ | (refine awp_draw ttok ?dr_calm ?_; (case dr_calm => decide +kernel)) | refine awp_condM ?_); simp (maxSteps := 4000000) only [↓reduceIte, Nat.reduceLT, Nat.reduceEqDiff, reduceCtorEq, Nat.reduceAdd, Nat.reduceMul, Int.reduceLE, Int.reduceLT, Int.reduceToNat, Nat.reduceLeDiff, Nat.reduceSub, Int.reduceEq, Nat.reduceBEq, evB, tyA]; (repeat (with_reducible refine And.intro ?_ ?_; exact sdX)); (with_reducible first | refine awp_id ?_ | refine id_call ?_ | refine id_and ?_ | refine id_ex ?_ | refine id_all ?_ | refine id_nat ?_ | refine id_le ?_))))
  refine awp_skip ?_
  rw [then2_n]
  refine awp2_seqL (awp_reg ttok ?_)
  simp (maxSteps := 4000000) only [↓reduceIte, Nat.reduceLT, Nat.reduceEqDiff, reduceCtorEq, Nat.reduceAdd, Nat.reduceMul, Int.reduceLE, Int.reduceLT, Int.reduceToNat, Nat.reduceLeDiff, Nat.reduceSub, Int.reduceEq, Nat.reduceBEq, evB, tyA, then2_n]
  (repeat (with_reducible refine And.intro ?_ ?_; exact sdX))
  refine callVC_mk fnok7 hD rfl ?_
  simp (maxSteps := 4000000) only [↓reduceIte, Nat.reduceLT, Nat.reduceEqDiff, reduceCtorEq, Nat.reduceAdd, Nat.reduceMul, Int.reduceLE, Int.reduceLT, Int.reduceToNat, Nat.reduceLeDiff, Nat.reduceSub, Int.reduceEq, Nat.reduceBEq, evB, tyA, then2_n, dfaD]
  (repeat (with_reducible refine And.intro ?_ ?_; exact sdX))
  refine awp2_seqL ?_
  refine awp_drawG ttok ((0, none) :: (1, none) :: (2, none) :: (3, none) :: (4, none) :: (5, none) :: (6, none) :: (7, none) :: (8, none) :: []) (0 :: 1 :: 2 :: 3 :: 4 :: 5 :: 6 :: 7 :: 8 :: []) (0 :: 1 :: 2 :: 7 :: 3 :: 4 :: 5 :: 6 :: 8 :: []) (by decide +kernel) fun O hO => ?_; simp only [OpsAre, Nat.reduceAdd, and_true, List.toList_toArray, List.append_eq, List.cons_append, List.nil_append] at hO; simp (maxSteps := 4000000) only [↓reduceIte, Nat.reduceLT, Nat.reduceEqDiff, reduceCtorEq, Nat.reduceAdd, Nat.reduceMul, Int.reduceLE, Int.reduceLT, Int.reduceToNat, Nat.reduceLeDiff, Nat.reduceSub, Int.reduceEq, Nat.reduceBEq, evB, tyA, hO, hmw, hmx]; (repeat (with_reducible refine And.intro ?_ ?_; exact sdX))
  rw [then2_n]
  refine awp2_seqL (awp_reg ttok ?_)
  simp (maxSteps := 4000000) only [↓reduceIte, Nat.reduceLT, Nat.reduceEqDiff, reduceCtorEq, Nat.reduceAdd, Nat.reduceMul, Int.reduceLE, Int.reduceLT, Int.reduceToNat, Nat.reduceLeDiff, Nat.reduceSub, Int.reduceEq, Nat.reduceBEq, evB, tyA, then2_n]
  (repeat (with_reducible refine And.intro ?_ ?_; exact sdX))
  refine callVC_mk fnok8 hU rfl ?_
  simp (maxSteps := 4000000) only [↓reduceIte, Nat.reduceLT, Nat.reduceEqDiff, reduceCtorEq, Nat.reduceAdd, Nat.reduceMul, Int.reduceLE, Int.reduceLT, Int.reduceToNat, Nat.reduceLeDiff, Nat.reduceSub, Int.reduceEq, Nat.reduceBEq, evB, tyA, then2_n]
  (repeat (with_reducible refine And.intro ?_ ?_; exact sdX))
  refine awp2_seqL ?_
  (repeat (first | refine awp_seq ?_ | refine awp_block ?_ | ((first | refine awp_skip ?_ | refine awp_exit ?_ | refine awp_reg ttok ?_ | (refine awp_draw ttok ?dr_calm ?_; (case dr_calm => decide +kernel)) | refine awp_condM ?_); simp (maxSteps := 4000000) only [↓reduceIte, Nat.reduceLT, Nat.reduceEqDiff, reduceCtorEq, Nat.reduceAdd, Nat.reduceMul, Int.reduceLE, Int.reduceLT, Int.reduceToNat, Nat.reduceLeDiff, Nat.reduceSub, Int.reduceEq, Nat.reduceBEq, evB, tyA]; (repeat (with_reducible refine And.intro ?_ ?_; exact sdX)); (with_reducible first | refine awp_id ?_ | refine id_call ?_ | refine id_and ?_ | refine id_ex ?_ | refine id_all ?_ | refine id_nat ?_ | refine id_le ?_))))
  refine awp_loop (X := Nat) (fun i => mkS 155 [(6, .ptr 1001 0 0), (7, .ptr 4008 0 0), (8, i64 mo), (9, i64 ma), (10, .sl false (iis U)), (11, .ptr 6005 0 0), (12, i64 i)] [(1001, { sz := 1, rows := [[bo false]], flat := false }), (4008, { sz := 4, rows := [[i64 L, i64 st, .sl false (bos F), .sl false (iis N)]], flat := false }), (6005, { sz := 1, rows := [[.own 6004 0 (wantL (endsD F N st) U i).length]], flat := false }), (6004, { sz := 1, rows := iis (wantL (endsD F N st) U i) })]) (fun i => i ≤ U.length) (fun i => U.length - i) 0 (Nat.zero_le _) (mkS_le rfl ?_ ?_) ?_
  · simp (maxSteps := 4000000) only [↓reduceIte, Nat.reduceLT, Nat.reduceEqDiff, reduceCtorEq, Nat.reduceAdd, Nat.reduceMul, Int.reduceLE, Int.reduceLT, Int.reduceToNat, Nat.reduceLeDiff, Nat.reduceSub, Int.reduceEq, Nat.reduceBEq, evB]
    try rfl
  · simp (maxSteps := 4000000) only [↓reduceIte, Nat.reduceLT, Nat.reduceEqDiff, reduceCtorEq, Nat.reduceAdd, Nat.reduceMul, Int.reduceLE, Int.reduceLT, Int.reduceToNat, Nat.reduceLeDiff, Nat.reduceSub, Int.reduceEq, Nat.reduceBEq, evB]
    repeat' (first | rfl | apply And.intro)
  · intro i hi
    have hwl := wantL_len (p := endsD F N st) (U := U) i
    by_cases hlt : i < U.length
    · have d1 : decide ((i : Int) < (U.length : Int)) = true := by simpa using hlt
      have hwi : IntKind.i64.wrap ((i : Int) + 1) = ((i + 1 : Nat) : Int) := i64_in (by omega) (by omega)
      have hgi := iis_get hlt
      have hm1 := hUm i hlt
      have hwn : wantL (endsD F N st) U (i + 1) = if endsD F N st (U.getD i []) then insI (U.getD i []) (wantL (endsD F N st) U i) else wantL (endsD F N st) U i := rfl
      generalize wantL (endsD F N st) U i = W at *
      generalize U.getD i [] = w at *
      have hEw := hEd w (by omega)
      (repeat (first | refine awp_seq ?_ | refine awp_block ?_ | ((first | refine awp_skip ?_ | refine awp_exit ?_ | refine awp_reg ttok ?_ | (refine awp_draw ttok ?dr_calm ?_; (case dr_calm => decide +kernel)) | refine awp_condM ?_); simp (maxSteps := 4000000) only [↓reduceIte, Nat.reduceLT, Nat.reduceEqDiff, reduceCtorEq, Nat.reduceAdd, Nat.reduceMul, Int.reduceLE, Int.reduceLT, Int.reduceToNat, Nat.reduceLeDiff, Nat.reduceSub, Int.reduceEq, Nat.reduceBEq, evB, tyA, d1, iis_len]; (repeat (with_reducible refine And.intro ?_ ?_; exact sdX)); (with_reducible first | refine awp_id ?_ | refine id_call ?_ | refine id_and ?_ | refine id_ex ?_ | refine id_all ?_ | refine id_nat ?_ | refine id_le ?_))))
      refine awp_drawG ttok ((0, none) :: (1, none) :: (2, none) :: (3, none) :: (4, none) :: (5, none) :: (6, none) :: (7, some []) :: []) ([]) ([]) (by decide +kernel) fun O hO => ?_; simp only [OpsAre, Nat.reduceAdd, and_true, List.toList_toArray, List.append_eq, List.cons_append, List.nil_append] at hO; simp (maxSteps := 4000000) only [↓reduceIte, Nat.reduceLT, Nat.reduceEqDiff, reduceCtorEq, Nat.reduceAdd, Nat.reduceMul, Int.reduceLE, Int.reduceLT, Int.reduceToNat, Nat.reduceLeDiff, Nat.reduceSub, Int.reduceEq, Nat.reduceBEq, evB, tyA, hO, hgi, iis_len]; (repeat (with_reducible refine And.intro ?_ ?_; exact sdX))
      refine callVC_scal fnok9 hEw rfl ?_
      simp (maxSteps := 4000000) only [↓reduceIte, Nat.reduceLT, Nat.reduceEqDiff, reduceCtorEq, Nat.reduceAdd, Nat.reduceMul, Int.reduceLE, Int.reduceLT, Int.reduceToNat, Nat.reduceLeDiff, Nat.reduceSub, Int.reduceEq, Nat.reduceBEq, evB, tyA, hO, hgi, iis_len]
      (repeat (with_reducible refine And.intro ?_ ?_; exact sdX))
      cases hb : endsD F N st w
      · rw [hb] at hwn
        simp only [Bool.false_eq_true, if_false] at hwn
        (repeat (first | refine awp_seq ?_ | refine awp_block ?_ | ((first | refine awp_skip ?_ | refine awp_exit ?_ | refine awp_reg ttok ?_ | (refine awp_draw ttok ?dr_calm ?_; (case dr_calm => decide +kernel)) | refine awp_condM ?_); simp (maxSteps := 4000000) only [↓reduceIte, Nat.reduceLT, Nat.reduceEqDiff, reduceCtorEq, Nat.reduceAdd, Nat.reduceMul, Int.reduceLE, Int.reduceLT, Int.reduceToNat, Nat.reduceLeDiff, Nat.reduceSub, Int.reduceEq, Nat.reduceBEq, evB, tyA, hwi]; (repeat (with_reducible refine And.intro ?_ ?_; exact sdX)); (with_reducible first | refine awp_id ?_ | refine id_call ?_ | refine id_and ?_ | refine id_ex ?_ | refine id_all ?_ | refine id_nat ?_ | refine id_le ?_))))
        refine ⟨i + 1, by omega, by omega, mkS_le rfl ?_ ?_⟩
        · exact evX
        · simp (maxSteps := 4000000) only [↓reduceIte, Nat.reduceLT, Nat.reduceEqDiff, reduceCtorEq, Nat.reduceAdd, Nat.reduceMul, Int.reduceLE, Int.reduceLT, Int.reduceToNat, Nat.reduceLeDiff, Nat.reduceSub, Int.reduceEq, Nat.reduceBEq, evB, hwn]
      · rw [hb, if_pos rfl] at hwn
        (repeat (first | refine awp_seq ?_ | refine awp_block ?_ | ((first | refine awp_skip ?_ | refine awp_exit ?_ | refine awp_reg ttok ?_ | (refine awp_draw ttok ?dr_calm ?_; (case dr_calm => decide +kernel)) | refine awp_condM ?_); simp (maxSteps := 4000000) only [↓reduceIte, Nat.reduceLT, Nat.reduceEqDiff, reduceCtorEq, Nat.reduceAdd, Nat.reduceMul, Int.reduceLE, Int.reduceLT, Int.reduceToNat, Nat.reduceLeDiff, Nat.reduceSub, Int.reduceEq, Nat.reduceBEq, evB, tyA, iis_len]; (repeat (with_reducible refine And.intro ?_ ?_; exact sdX)); (with_reducible first | refine awp_id ?_ | refine id_call ?_ | refine id_and ?_ | refine id_ex ?_ | refine id_all ?_ | refine id_nat ?_ | refine id_le ?_))))
        have hpl := posI_le w W W.length
        refine awp_joinX (X := Unit) 2 (fun _ => mkS 155 [(6, .ptr 1001 0 0), (7, .ptr 4008 0 0), (8, i64 mo), (9, i64 ma), (10, .sl false (iis U)), (11, .ptr 6005 0 0), (12, i64 i), (13, i64 (posI w W W.length))] [(1001, { sz := 1, rows := [[bo false]], flat := false }), (4008, { sz := 4, rows := [[i64 L, i64 st, .sl false (bos F), .sl false (iis N)]], flat := false }), (6005, { sz := 1, rows := [[.own 6004 0 W.length]], flat := false }), (6004, { sz := 1, rows := iis W })]) (fun _ => True) ?_ ?_
        rotate_left
        · refine awp_loop (X := Nat) (fun j => mkS 155 [(6, .ptr 1001 0 0), (7, .ptr 4008 0 0), (8, i64 mo), (9, i64 ma), (10, .sl false (iis U)), (11, .ptr 6005 0 0), (12, i64 i), (13, i64 j)] [(1001, { sz := 1, rows := [[bo false]], flat := false }), (4008, { sz := 4, rows := [[i64 L, i64 st, .sl false (bos F), .sl false (iis N)]], flat := false }), (6005, { sz := 1, rows := [[.own 6004 0 W.length]], flat := false }), (6004, { sz := 1, rows := iis W })]) (fun j => j ≤ W.length ∧ posI w W W.length = posI w W j) (fun j => j) W.length ⟨Nat.le_refl _, rfl⟩ (mkS_le rfl ?_ ?_) ?_
          · exact evX
          · exact evX
          intro j ⟨hj, hpj⟩
          rcases Nat.eq_zero_or_pos j with rfl | hj0
          · have d2 : decide (((0 : Nat) : Int) > 0) = false := rfl
            have hp0 : posI w W 0 = 0 := rfl
            rw [hp0] at hpj
            (repeat (first | refine awp_seq ?_ | refine awp_block ?_ | ((first | refine awp_skip ?_ | refine awp_exit ?_ | refine awp_reg ttok ?_ | (refine awp_draw ttok ?dr_calm ?_; (case dr_calm => decide +kernel)) | refine awp_condM ?_); simp (maxSteps := 4000000) only [↓reduceIte, Nat.reduceLT, Nat.reduceEqDiff, reduceCtorEq, Nat.reduceAdd, Nat.reduceMul, Int.reduceLE, Int.reduceLT, Int.reduceToNat, Nat.reduceLeDiff, Nat.reduceSub, Int.reduceEq, Nat.reduceBEq, evB, tyA]; (repeat (with_reducible refine And.intro ?_ ?_; exact sdX)); (with_reducible first | refine awp_id ?_ | refine id_call ?_ | refine id_and ?_ | refine id_ex ?_ | refine id_all ?_ | refine id_nat ?_ | refine id_le ?_))))
            refine awp_drawG ttok ((0, none) :: (1, none) :: (2, none) :: (3, none) :: (4, none) :: (5, none) :: (6, none) :: (7, none) :: (8, none) :: (9, none) :: (10, none) :: (11, none) :: (12, some []) :: (13, none) :: []) ([]) ([]) (by decide +kernel) fun O hO => ?_; simp only [OpsAre, Nat.reduceAdd, and_true, List.toList_toArray, List.append_eq, List.cons_append, List.nil_append] at hO; simp (maxSteps := 4000000) only [↓reduceIte, Nat.reduceLT, Nat.reduceEqDiff, reduceCtorEq, Nat.reduceAdd, Nat.reduceMul, Int.reduceLE, Int.reduceLT, Int.reduceToNat, Nat.reduceLeDiff, Nat.reduceSub, Int.reduceEq, Nat.reduceBEq, evB, tyA, hO, d2]; (repeat (with_reducible refine And.intro ?_ ?_; exact sdX))
            (repeat (first | refine awp_seq ?_ | refine awp_block ?_ | ((first | refine awp_skip ?_ | refine awp_exit ?_ | refine awp_reg ttok ?_ | (refine awp_draw ttok ?dr_calm ?_; (case dr_calm => decide +kernel)) | refine awp_condM ?_); simp (maxSteps := 4000000) only [↓reduceIte, Nat.reduceLT, Nat.reduceEqDiff, reduceCtorEq, Nat.reduceAdd, Nat.reduceMul, Int.reduceLE, Int.reduceLT, Int.reduceToNat, Nat.reduceLeDiff, Nat.reduceSub, Int.reduceEq, Nat.reduceBEq, evB, tyA, joinX]; (repeat (with_reducible refine And.intro ?_ ?_; exact sdX)); (with_reducible first | refine awp_id ?_ | refine id_call ?_ | refine id_and ?_ | refine id_ex ?_ | refine id_all ?_ | refine id_nat ?_ | refine id_le ?_))))
            refine ⟨(), mkS_le rfl ?_ ?_⟩
            · simp (maxSteps := 4000000) only [↓reduceIte, Nat.reduceLT, Nat.reduceEqDiff, reduceCtorEq, Nat.reduceAdd, Nat.reduceMul, Int.reduceLE, Int.reduceLT, Int.reduceToNat, Nat.reduceLeDiff, Nat.reduceSub, Int.reduceEq, Nat.reduceBEq, evB, hpj]
            · exact evX
          · obtain ⟨j, rfl⟩ : ∃ m, j = m + 1 := ⟨j - 1, by omega⟩
            have d2 : decide (((j + 1 : Nat) : Int) > 0) = true := by simp
            have w2 : IntKind.i64.wrap (((j + 1 : Nat) : Int) - 1) = (j : Int) := by rw [i64_in (by omega) (by omega)]; omega
            have hgj := iis_get (l := W) (i := j) (by omega)
            have hle := c_less false false w (W.getD j []) (by omega)
            have hpn : posI w W (j + 1) = if lexB w (W.getD j []) = true then posI w W j else j + 1 := rfl
            (repeat (first | refine awp_seq ?_ | refine awp_block ?_ | ((first | refine awp_skip ?_ | refine awp_exit ?_ | refine awp_reg ttok ?_ | (refine awp_draw ttok ?dr_calm ?_; (case dr_calm => decide +kernel)) | refine awp_condM ?_); simp (maxSteps := 4000000) only [↓reduceIte, Nat.reduceLT, Nat.reduceEqDiff, reduceCtorEq, Nat.reduceAdd, Nat.reduceMul, Int.reduceLE, Int.reduceLT, Int.reduceToNat, Nat.reduceLeDiff, Nat.reduceSub, Int.reduceEq, Nat.reduceBEq, evB, tyA]; (repeat (with_reducible refine And.intro ?_ ?_; exact sdX)); (with_reducible first | refine awp_id ?_ | refine id_call ?_ | refine id_and ?_ | refine id_ex ?_ | refine id_all ?_ | refine id_nat ?_ | refine id_le ?_))))
            refine awp_drawG ttok ((0, none) :: (1, none) :: (2, none) :: (3, none) :: (4, none) :: (5, none) :: (6, none) :: (7, none) :: (8, none) :: (9, none) :: (10, none) :: (11, none) :: (12, some []) :: (13, none) :: []) ([]) ([]) (by decide +kernel) fun O hO => ?_; simp only [OpsAre, Nat.reduceAdd, and_true, List.toList_toArray, List.append_eq, List.cons_append, List.nil_append] at hO; simp (maxSteps := 4000000) only [↓reduceIte, Nat.reduceLT, Nat.reduceEqDiff, reduceCtorEq, Nat.reduceAdd, Nat.reduceMul, Int.reduceLE, Int.reduceLT, Int.reduceToNat, Nat.reduceLeDiff, Nat.reduceSub, Int.reduceEq, Nat.reduceBEq, evB, tyA, hO, d2, w2, hgi, hgj, iis_len]; (repeat (with_reducible refine And.intro ?_ ?_; exact sdX))
            refine callVC_scal fnok10 hle rfl ?_
            simp (maxSteps := 4000000) only [↓reduceIte, Nat.reduceLT, Nat.reduceEqDiff, reduceCtorEq, Nat.reduceAdd, Nat.reduceMul, Int.reduceLE, Int.reduceLT, Int.reduceToNat, Nat.reduceLeDiff, Nat.reduceSub, Int.reduceEq, Nat.reduceBEq, evB, tyA, hO, d2, w2, hgi, hgj, iis_len]
            (repeat (with_reducible refine And.intro ?_ ?_; exact sdX))
            cases hx : lexB w (W.getD j [])
            · rw [hx] at hpn
              simp only [Bool.false_eq_true, if_false] at hpn
              rw [hpn] at hpj
              (repeat (first | refine awp_seq ?_ | refine awp_block ?_ | ((first | refine awp_skip ?_ | refine awp_exit ?_ | refine awp_reg ttok ?_ | (refine awp_draw ttok ?dr_calm ?_; (case dr_calm => decide +kernel)) | refine awp_condM ?_); simp (maxSteps := 4000000) only [↓reduceIte, Nat.reduceLT, Nat.reduceEqDiff, reduceCtorEq, Nat.reduceAdd, Nat.reduceMul, Int.reduceLE, Int.reduceLT, Int.reduceToNat, Nat.reduceLeDiff, Nat.reduceSub, Int.reduceEq, Nat.reduceBEq, evB, tyA, joinX]; (repeat (with_reducible refine And.intro ?_ ?_; exact sdX)); (with_reducible first | refine awp_id ?_ | refine id_call ?_ | refine id_and ?_ | refine id_ex ?_ | refine id_all ?_ | refine id_nat ?_ | refine id_le ?_))))
              refine ⟨(), mkS_le rfl ?_ ?_⟩
              · simp (maxSteps := 4000000) only [↓reduceIte, Nat.reduceLT, Nat.reduceEqDiff, reduceCtorEq, Nat.reduceAdd, Nat.reduceMul, Int.reduceLE, Int.reduceLT, Int.reduceToNat, Nat.reduceLeDiff, Nat.reduceSub, Int.reduceEq, Nat.reduceBEq, evB, hpj]
              · exact evX
            · rw [hx, if_pos rfl] at hpn
              (repeat (first | refine awp_seq ?_ | refine awp_block ?_ | ((first | refine awp_skip ?_ | refine awp_exit ?_ | refine awp_reg ttok ?_ | (refine awp_draw ttok ?dr_calm ?_; (case dr_calm => decide +kernel)) | refine awp_condM ?_); simp (maxSteps := 4000000) only [↓reduceIte, Nat.reduceLT, Nat.reduceEqDiff, reduceCtorEq, Nat.reduceAdd, Nat.reduceMul, Int.reduceLE, Int.reduceLT, Int.reduceToNat, Nat.reduceLeDiff, Nat.reduceSub, Int.reduceEq, Nat.reduceBEq, evB, tyA, w2]; (repeat (with_reducible refine And.intro ?_ ?_; exact sdX)); (with_reducible first | refine awp_id ?_ | refine id_call ?_ | refine id_and ?_ | refine id_ex ?_ | refine id_all ?_ | refine id_nat ?_ | refine id_le ?_))))
              refine ⟨j, ⟨by omega, by omega⟩, by omega, mkS_le rfl ?_ ?_⟩
              · exact evX
              · exact evX
        intro _ _
        rw [show insI w W = W.take (posI w W W.length) ++ w :: W.drop (posI w W W.length) from rfl] at hwn
        generalize posI w W W.length = p at *
        simp (maxSteps := 4000000) only [↓reduceIte, Nat.reduceLT, Nat.reduceEqDiff, reduceCtorEq, Nat.reduceAdd, Nat.reduceMul, Int.reduceLE, Int.reduceLT, Int.reduceToNat, Nat.reduceLeDiff, Nat.reduceSub, Int.reduceEq, Nat.reduceBEq, evB]
        have hap := shR_all W
        have hap2 : iis W ++ [[D.sl true []]] = shR W W.length := hap
        have y2 : (iis W).take W.length = iis W := List.take_of_length_le (by rw [iis_len]; exact Nat.le_refl _)
        have y3 : (∀ row ∈ [[D.sl true []]], row.length = 1) = True := by simp
        have w5 : IntKind.i64.wrap (((W.length + 1 : Nat) : Int) - 1) = (W.length : Int) := by rw [i64_in (by omega) (by omega)]; omega
        (repeat (first | refine awp_seq ?_ | refine awp_block ?_ | ((first | refine awp_skip ?_ | refine awp_exit ?_ | refine awp_reg ttok ?_ | (refine awp_draw ttok ?dr_calm ?_; (case dr_calm => decide +kernel)) | refine awp_condM ?_); simp (maxSteps := 4000000) only [↓reduceIte, Nat.reduceLT, Nat.reduceEqDiff, reduceCtorEq, Nat.reduceAdd, Nat.reduceMul, Int.reduceLE, Int.reduceLT, Int.reduceToNat, Nat.reduceLeDiff, Nat.reduceSub, Int.reduceEq, Nat.reduceBEq, evB, tyA, hap2, y2, y3, iis_len, w5]; (repeat (with_reducible refine And.intro ?_ ?_; exact sdX)); (with_reducible first | refine awp_id ?_ | refine id_call ?_ | refine id_and ?_ | refine id_ex ?_ | refine id_all ?_ | refine id_nat ?_ | refine id_le ?_))))
        refine awp_loop (X := Nat) (fun q => mkS 155 [(6, .ptr 1001 0 0), (7, .ptr 4008 0 0), (8, i64 mo), (9, i64 ma), (10, .sl false (iis U)), (11, .ptr 6005 0 0), (12, i64 i), (13, i64 p), (14, i64 q)] [(1001, { sz := 1, rows := [[bo false]], flat := false }), (4008, { sz := 4, rows := [[i64 L, i64 st, .sl false (bos F), .sl false (iis N)]], flat := false }), (6005, { sz := 1, rows := [[.own 6004 0 (W.length + 1)]], flat := false }), (6004, { sz := 1, rows := shR W q })]) (fun q => p ≤ q ∧ q ≤ W.length) (fun q => q) W.length ⟨hpl, Nat.le_refl _⟩ (mkS_le rfl ?_ ?_) ?_
        · exact evX
        · exact evX
        intro q ⟨hq1, hq2⟩
        have hsl := shR_len hq2
        have hdr := shR_drop hq2
        by_cases hpq : p < q
        · have d3 : decide ((q : Int) > (p : Int)) = true := by simpa using hpq
          have w6 : IntKind.i64.wrap ((q : Int) - 1) = ((q - 1 : Nat) : Int) := by rw [i64_in (by omega) (by omega)]; omega
          have g1 := shR_get hq2 (by omega)
          have g2 := shR_set hq2 (by omega)
          (repeat (first | refine awp_seq ?_ | refine awp_block ?_ | ((first | refine awp_skip ?_ | refine awp_exit ?_ | refine awp_reg ttok ?_ | (refine awp_draw ttok ?dr_calm ?_; (case dr_calm => decide +kernel)) | refine awp_condM ?_); simp (maxSteps := 4000000) only [↓reduceIte, Nat.reduceLT, Nat.reduceEqDiff, reduceCtorEq, Nat.reduceAdd, Nat.reduceMul, Int.reduceLE, Int.reduceLT, Int.reduceToNat, Nat.reduceLeDiff, Nat.reduceSub, Int.reduceEq, Nat.reduceBEq, evB, tyA, d3]; (repeat (with_reducible refine And.intro ?_ ?_; exact sdX)); (with_reducible first | refine awp_id ?_ | refine id_call ?_ | refine id_and ?_ | refine id_ex ?_ | refine id_all ?_ | refine id_nat ?_ | refine id_le ?_))))
          refine awp_drawG ttok ((0, none) :: (1, none) :: (2, none) :: (3, none) :: (4, none) :: (5, none) :: (6, none) :: (7, none) :: (8, some []) :: []) ([]) ([]) (by decide +kernel) fun O hO => ?_; simp only [OpsAre, Nat.reduceAdd, and_true, List.toList_toArray, List.append_eq, List.cons_append, List.nil_append] at hO; simp (maxSteps := 4000000) only [↓reduceIte, Nat.reduceLT, Nat.reduceEqDiff, reduceCtorEq, Nat.reduceAdd, Nat.reduceMul, Int.reduceLE, Int.reduceLT, Int.reduceToNat, Nat.reduceLeDiff, Nat.reduceSub, Int.reduceEq, Nat.reduceBEq, evB, tyA, hO, w6, g1, g2, hsl]; (repeat (with_reducible refine And.intro ?_ ?_; exact sdX))
          (repeat (first | refine awp_seq ?_ | refine awp_block ?_ | ((first | refine awp_skip ?_ | refine awp_exit ?_ | refine awp_reg ttok ?_ | (refine awp_draw ttok ?dr_calm ?_; (case dr_calm => decide +kernel)) | refine awp_condM ?_); simp (maxSteps := 4000000) only [↓reduceIte, Nat.reduceLT, Nat.reduceEqDiff, reduceCtorEq, Nat.reduceAdd, Nat.reduceMul, Int.reduceLE, Int.reduceLT, Int.reduceToNat, Nat.reduceLeDiff, Nat.reduceSub, Int.reduceEq, Nat.reduceBEq, evB, tyA, w6]; (repeat (with_reducible refine And.intro ?_ ?_; exact sdX)); (with_reducible first | refine awp_id ?_ | refine id_call ?_ | refine id_and ?_ | refine id_ex ?_ | refine id_all ?_ | refine id_nat ?_ | refine id_le ?_))))
          refine ⟨q - 1, ⟨by omega, by omega⟩, by omega, mkS_le rfl ?_ ?_⟩
          · exact evX
          · simp (maxSteps := 4000000) only [↓reduceIte, Nat.reduceLT, Nat.reduceEqDiff, reduceCtorEq, Nat.reduceAdd, Nat.reduceMul, Int.reduceLE, Int.reduceLT, Int.reduceToNat, Nat.reduceLeDiff, Nat.reduceSub, Int.reduceEq, Nat.reduceBEq, evB, hdr, g2]
        · have d3 : decide ((q : Int) > (p : Int)) = false := by simpa using hpq
          obtain rfl : q = p := by omega
          have g2 := shR_end hq2 w
          (repeat (first | refine awp_seq ?_ | refine awp_block ?_ | ((first | refine awp_skip ?_ | refine awp_exit ?_ | refine awp_reg ttok ?_ | (refine awp_draw ttok ?dr_calm ?_; (case dr_calm => decide +kernel)) | refine awp_condM ?_); simp (maxSteps := 4000000) only [↓reduceIte, Nat.reduceLT, Nat.reduceEqDiff, reduceCtorEq, Nat.reduceAdd, Nat.reduceMul, Int.reduceLE, Int.reduceLT, Int.reduceToNat, Nat.reduceLeDiff, Nat.reduceSub, Int.reduceEq, Nat.reduceBEq, evB, tyA, d3]; (repeat (with_reducible refine And.intro ?_ ?_; exact sdX)); (with_reducible first | refine awp_id ?_ | refine id_call ?_ | refine id_and ?_ | refine id_ex ?_ | refine id_all ?_ | refine id_nat ?_ | refine id_le ?_))))
          refine awp_drawG ttok ((0, none) :: (1, none) :: (2, none) :: (3, none) :: (4, none) :: (5, none) :: (6, none) :: (7, some []) :: []) ([]) ([]) (by decide +kernel) fun O hO => ?_; simp only [OpsAre, Nat.reduceAdd, and_true, List.toList_toArray, List.append_eq, List.cons_append, List.nil_append] at hO; simp (maxSteps := 4000000) only [↓reduceIte, Nat.reduceLT, Nat.reduceEqDiff, reduceCtorEq, Nat.reduceAdd, Nat.reduceMul, Int.reduceLE, Int.reduceLT, Int.reduceToNat, Nat.reduceLeDiff, Nat.reduceSub, Int.reduceEq, Nat.reduceBEq, evB, tyA, hO, hgi, g2, iis_len, hsl]; (repeat (with_reducible refine And.intro ?_ ?_; exact sdX))
          have hwl2 : (W.take q ++ w :: W.drop q).length = W.length + 1 := by simp; omega
          (repeat (first | refine awp_seq ?_ | refine awp_block ?_ | ((first | refine awp_skip ?_ | refine awp_exit ?_ | refine awp_reg ttok ?_ | (refine awp_draw ttok ?dr_calm ?_; (case dr_calm => decide +kernel)) | refine awp_condM ?_); simp (maxSteps := 4000000) only [↓reduceIte, Nat.reduceLT, Nat.reduceEqDiff, reduceCtorEq, Nat.reduceAdd, Nat.reduceMul, Int.reduceLE, Int.reduceLT, Int.reduceToNat, Nat.reduceLeDiff, Nat.reduceSub, Int.reduceEq, Nat.reduceBEq, evB, tyA, hwi]; (repeat (with_reducible refine And.intro ?_ ?_; exact sdX)); (with_reducible first | refine awp_id ?_ | refine id_call ?_ | refine id_and ?_ | refine id_ex ?_ | refine id_all ?_ | refine id_nat ?_ | refine id_le ?_))))
          refine ⟨i + 1, by omega, by omega, mkS_le rfl ?_ ?_⟩
          · exact evX
          · simp (maxSteps := 4000000) only [↓reduceIte, Nat.reduceLT, Nat.reduceEqDiff, reduceCtorEq, Nat.reduceAdd, Nat.reduceMul, Int.reduceLE, Int.reduceLT, Int.reduceToNat, Nat.reduceLeDiff, Nat.reduceSub, Int.reduceEq, Nat.reduceBEq, evB, hwn, hwl2, hdr, g2]
    · have d1 : decide ((i : Int) < (U.length : Int)) = false := by simpa using hlt
      obtain rfl : i = U.length := by omega
      (repeat (first | refine awp_seq ?_ | refine awp_block ?_ | ((first | refine awp_skip ?_ | refine awp_exit ?_ | refine awp_reg ttok ?_ | (refine awp_draw ttok ?dr_calm ?_; (case dr_calm => decide +kernel)) | refine awp_condM ?_); simp (maxSteps := 4000000) only [↓reduceIte, Nat.reduceLT, Nat.reduceEqDiff, reduceCtorEq, Nat.reduceAdd, Nat.reduceMul, Int.reduceLE, Int.reduceLT, Int.reduceToNat, Nat.reduceLeDiff, Nat.reduceSub, Int.reduceEq, Nat.reduceBEq, evB, tyA, d1, iis_len]; (repeat (with_reducible refine And.intro ?_ ?_; exact sdX)); (with_reducible first | refine awp_id ?_ | refine id_call ?_ | refine id_and ?_ | refine id_ex ?_ | refine id_all ?_ | refine id_nat ?_ | refine id_le ?_))))
      refine awp_exit ?_
      simp (maxSteps := 4000000) only [↓reduceIte, Nat.reduceLT, Nat.reduceEqDiff, reduceCtorEq, Nat.reduceAdd, Nat.reduceMul, Int.reduceLE, Int.reduceLT, Int.reduceToNat, Nat.reduceLeDiff, Nat.reduceSub, Int.reduceEq, Nat.reduceBEq, evB, hwf]
      have hfl : (fromL F N (liveL F N) mo st []).length ≤ 6 * 1048576 := by rw [← hwf]; exact Nat.le_trans (wantL_len _) hUl
      have hWl : ∀ x ∈ fromL F N (liveL F N) mo st [], x.length ≤ 3 := fun x hx => by
        obtain ⟨u, hx2, hu, _⟩ := (fromL_mem hok hF hst).1 hx
        rw [List.nil_append] at hx2
        rw [hx2]; omega
      generalize fromL F N (liveL F N) mo st [] = W at *
      rw [then2_n]
      (refine awp2_seqL (awp_reg ttok ?_); simp (maxSteps := 4000000) only [↓reduceIte, Nat.reduceLT, Nat.reduceEqDiff, reduceCtorEq, Nat.reduceAdd, Nat.reduceMul, Int.reduceLE, Int.reduceLT, Int.reduceToNat, Nat.reduceLeDiff, Nat.reduceSub, Int.reduceEq, Nat.reduceBEq, evB, tyA, then2_n]; (repeat (with_reducible refine And.intro ?_ ?_; exact sdX)))
      refine awp2_seqR (awp2_seqL (awp_reg ttok ?_))
      simp (maxSteps := 4000000) only [↓reduceIte, Nat.reduceLT, Nat.reduceEqDiff, reduceCtorEq, Nat.reduceAdd, Nat.reduceMul, Int.reduceLE, Int.reduceLT, Int.reduceToNat, Nat.reduceLeDiff, Nat.reduceSub, Int.reduceEq, Nat.reduceBEq, evB, tyA, then2_n]
      (repeat (with_reducible refine And.intro ?_ ?_; exact sdX))
      refine callVC_mk fnok11 (c_All L st false false (bos F) (iis N) mo) rfl ?_
      simp (maxSteps := 4000000) only [↓reduceIte, Nat.reduceLT, Nat.reduceEqDiff, reduceCtorEq, Nat.reduceAdd, Nat.reduceMul, Int.reduceLE, Int.reduceLT, Int.reduceToNat, Nat.reduceLeDiff, Nat.reduceSub, Int.reduceEq, Nat.reduceBEq, evB, tyA, then2_n]
      (repeat (with_reducible refine And.intro ?_ ?_; exact sdX))
      refine awp2_block (awp2_range 155 [(6, .ptr 1001 0 0), (7, .ptr 4008 0 0), (8, i64 mo), (9, i64 ma), (11, .ptr 6005 0 0), (15, .ptr 20000 0 0)] (fun pre => [(1001, { sz := 1, rows := [[bo false]], flat := false }), (4008, { sz := 4, rows := [[i64 L, i64 st, .sl false (bos F), .sl false (iis N)]], flat := false }), (6005, { sz := 1, rows := [[.own 6004 0 W.length]], flat := false }), (6004, { sz := 1, rows := iis W }), (20000, { sz := 1, rows := [[i64 pre.length]], flat := false })]) [1001, 4008, 6005, 20000] (fun _ => True) (fun _ _ => False) hE trivial (mkS_le rfl ?_ ?_) rfl (fun _ => rfl) (fun _ => rfl) rfl fnok19 rfl hit (fun _ => rfl) (by decide) ?_ ?_ ?_)
      · exact evX
      · simp (maxSteps := 4000000) only [↓reduceIte, Nat.reduceLT, Nat.reduceEqDiff, reduceCtorEq, Nat.reduceAdd, Nat.reduceMul, Int.reduceLE, Int.reduceLT, Int.reduceToNat, Nat.reduceLeDiff, Nat.reduceSub, Int.reduceEq, Nat.reduceBEq, evB]
        rfl
      · intro pre w _ hp l E0
        obtain ⟨m, hWm⟩ := hp
        have hlt : pre.length < W.length := by rw [← hWm]; simp
        have hgw : W.getD pre.length [] = w := by rw [← hWm]; simp [List.getD]
        have hgi := iis_get hlt
        rw [hgw] at hgi
        have d5 : decide ((pre.length : Int) ≥ (W.length : Int)) = false := by simpa using hlt
        have w8 : IntKind.i64.wrap ((pre.length : Int) + 1) = ((pre.length + 1 : Nat) : Int) := i64_in (by omega) (by omega)
        have hsm := c_Same false false w w (by have := hWl w (by rw [← hWm]; simp); omega)
        rw [show (w == w) = true by simp] at hsm
        have y4 : (pre ++ [w]).length = pre.length + 1 := by simp
        refine awpI_reg ttok ?_
        simp (maxSteps := 4000000) only [↓reduceIte, Nat.reduceLT, Nat.reduceEqDiff, reduceCtorEq, Nat.reduceAdd, Nat.reduceMul, Int.reduceLE, Int.reduceLT, Int.reduceToNat, Nat.reduceLeDiff, Nat.reduceSub, Int.reduceEq, Nat.reduceBEq, evB, tyA]
        (repeat (with_reducible refine And.intro ?_ ?_; exact sdX))
        refine ⟨rfl, fun E1 => ?_⟩
        refine awpI_le (st' := mkS 155 [(6, .ptr 1001 0 0), (7, .ptr 4008 0 0), (8, i64 mo), (9, i64 ma), (11, .ptr 6005 0 0), (15, .ptr 20000 0 0), (16, .sl false (ints w))] [(1001, { sz := 1, rows := [[bo false]], flat := false, pin := true }), (4008, { sz := 4, rows := [[i64 L, i64 st, .sl false (bos F), .sl false (iis N)]], flat := false, pin := true }), (6005, { sz := 1, rows := [[.own 6004 0 W.length]], flat := false, pin := true }), (6004, { sz := 1, rows := iis W }), (20000, { sz := 1, rows := [[i64 pre.length]], flat := false, pin := true })]) ?_ (mkS_le rfl ?_ ?_)
        rotate_left
        · exact evX
        · exact ⟨rfl, rfl, rfl, rfl, rfl, trivial⟩
        refine awpI_block (awpI_seq (awpI_seq (awpI_reg ttok ?_)))
        simp (maxSteps := 4000000) only [↓reduceIte, Nat.reduceLT, Nat.reduceEqDiff, reduceCtorEq, Nat.reduceAdd, Nat.reduceMul, Int.reduceLE, Int.reduceLT, Int.reduceToNat, Nat.reduceLeDiff, Nat.reduceSub, Int.reduceEq, Nat.reduceBEq, evB, tyA, thenI_n, d5, iis_len, hgi]
        (repeat (with_reducible refine And.intro ?_ ?_; exact sdX))
        refine callVC_scal fnok12 hsm rfl ?_
        simp (maxSteps := 4000000) only [↓reduceIte, Nat.reduceLT, Nat.reduceEqDiff, reduceCtorEq, Nat.reduceAdd, Nat.reduceMul, Int.reduceLE, Int.reduceLT, Int.reduceToNat, Nat.reduceLeDiff, Nat.reduceSub, Int.reduceEq, Nat.reduceBEq, evB, tyA, thenI_n, d5, iis_len, hgi]
        (repeat (with_reducible refine And.intro ?_ ?_; exact sdX))
        refine awpI_cond (t := false) evX (fun q => by cases q) (fun _ => awpI_skip ?_)
        rw [thenI_n]
        refine awpI_reg ttok ?_
        simp (maxSteps := 4000000) only [↓reduceIte, Nat.reduceLT, Nat.reduceEqDiff, reduceCtorEq, Nat.reduceAdd, Nat.reduceMul, Int.reduceLE, Int.reduceLT, Int.reduceToNat, Nat.reduceLeDiff, Nat.reduceSub, Int.reduceEq, Nat.reduceBEq, evB, tyA, w8]
        (repeat (with_reducible refine And.intro ?_ ?_; exact sdX))
        refine ⟨trivial, ?_⟩
        simp only [pinned, List.map_cons, List.map_nil, y4]
        simp (maxSteps := 4000000) only [↓reduceIte, Nat.reduceLT, Nat.reduceEqDiff, reduceCtorEq, Nat.reduceAdd, Nat.reduceMul, Int.reduceLE, Int.reduceLT, Int.reduceToNat, Nat.reduceLeDiff, Nat.reduceSub, Int.reduceEq, Nat.reduceBEq, evB]
        try exact ⟨rfl, rfl, rfl, rfl, rfl, trivial⟩
      · intro _
        refine (show ∀ E2, AWP Try.prog E2 _ _ _ from fun E2 => ?_)
        have hSome : ∃ fl, Contract Try.prog 13 [.agg [i64 L, i64 st, .sl false (bos F), .sl false (iis N)], i64 mo, i64 ma] (.sl fl (iis (W.take ma))) [] := by
          rcases Nat.eq_zero_or_pos ma with rfl | h0
          · exact ⟨true, c_SomeNo L st false false (bos F) (iis N) mo ((0 : Nat) : Int) (by omega)⟩
          · have := c_SomeG L st false false (bos F) (iis N) mo ma W hit (by omega) (by omega)
            rw [Int.toNat_natCast] at this
            exact ⟨false, this⟩
        obtain ⟨fl, hSome⟩ := hSome
        have hGl : (W.take ma).length = min ma W.length := List.length_take
        have hGg : ∀ i, i < (W.take ma).length → (W.take ma).getD i [] = W.getD i [] := fun i hi => by
          simp only [List.getD]; rw [List.getElem?_take, if_pos (by omega)]
        have hSz := c_SomeG 0 0 true true [] [] 3 3 [] (c_All1Z 3) (by decide) (by decide)
        rw [List.take_nil] at hSz
        generalize W.take ma = G at *
        (repeat (first | refine awp_seq ?_ | refine awp_block ?_ | ((first | refine awp_skip ?_ | refine awp_exit ?_ | refine awp_reg ttok ?_ | (refine awp_draw ttok ?dr_calm ?_; (case dr_calm => decide +kernel)) | refine awp_condM ?_); simp (maxSteps := 4000000) only [↓reduceIte, Nat.reduceLT, Nat.reduceEqDiff, reduceCtorEq, Nat.reduceAdd, Nat.reduceMul, Int.reduceLE, Int.reduceLT, Int.reduceToNat, Nat.reduceLeDiff, Nat.reduceSub, Int.reduceEq, Nat.reduceBEq, evB, tyA]; (repeat (with_reducible refine And.intro ?_ ?_; exact sdX)); (with_reducible first | refine awp_id ?_ | refine id_call ?_ | refine id_and ?_ | refine id_ex ?_ | refine id_all ?_ | refine id_nat ?_ | refine id_le ?_))))
        refine callVC_mk fnok13 hSome rfl ?_
        simp (maxSteps := 4000000) only [↓reduceIte, Nat.reduceLT, Nat.reduceEqDiff, reduceCtorEq, Nat.reduceAdd, Nat.reduceMul, Int.reduceLE, Int.reduceLT, Int.reduceToNat, Nat.reduceLeDiff, Nat.reduceSub, Int.reduceEq, Nat.reduceBEq, evB, tyA]
        (repeat (with_reducible refine And.intro ?_ ?_; exact sdX))
        have k0 : ((W.length : Int) != (W.length : Int)) = false := by simp
        have k1 : ((G.length : Int) != (if (W.length : Int) < (ma : Int) then (W.length : Int) else (ma : Int))) = false := by
          rw [hGl]; split <;> simp <;> omega
        (repeat (first | refine awp_seq ?_ | refine awp_block ?_ | ((first | refine awp_skip ?_ | refine awp_exit ?_ | refine awp_reg ttok ?_ | (refine awp_draw ttok ?dr_calm ?_; (case dr_calm => decide +kernel)) | refine awp_condM ?_); simp (maxSteps := 4000000) only [↓reduceIte, Nat.reduceLT, Nat.reduceEqDiff, reduceCtorEq, Nat.reduceAdd, Nat.reduceMul, Int.reduceLE, Int.reduceLT, Int.reduceToNat, Nat.reduceLeDiff, Nat.reduceSub, Int.reduceEq, Nat.reduceBEq, evB, tyA, k0, k1, iis_len]; (repeat (with_reducible refine And.intro ?_ ?_; exact sdX)); (with_reducible first | refine awp_id ?_ | refine id_call ?_ | refine id_and ?_ | refine id_ex ?_ | refine id_all ?_ | refine id_nat ?_ | refine id_le ?_))))
        refine awp_loop (X := Nat) (fun i => mkS 155 [(6, .ptr 1001 0 0), (11, .ptr 6005 0 0), (17, .sl fl (iis G)), (18, i64 i)] [(1001, { sz := 1, rows := [[bo false]], flat := false }), (6005, { sz := 1, rows := [[.own 6004 0 W.length]], flat := false }), (6004, { sz := 1, rows := iis W })]) (fun i => i ≤ G.length) (fun i => G.length - i) 0 (Nat.zero_le _) (mkS_le rfl ?_ ?_) ?_
        · simp (maxSteps := 4000000) only [↓reduceIte, Nat.reduceLT, Nat.reduceEqDiff, reduceCtorEq, Nat.reduceAdd, Nat.reduceMul, Int.reduceLE, Int.reduceLT, Int.reduceToNat, Nat.reduceLeDiff, Nat.reduceSub, Int.reduceEq, Nat.reduceBEq, evB]
          rfl
        · exact evX
        intro i hi
        have hx : G.length ≤ W.length := by rw [hGl]; omega
        by_cases hlt : i < G.length
        · have d7 : decide ((i : Int) < (G.length : Int)) = true := by simpa using hlt
          have w9 : IntKind.i64.wrap ((i : Int) + 1) = ((i + 1 : Nat) : Int) := i64_in (by omega) (by omega)
          have g1 := iis_get hlt
          have g2 := iis_get (l := W) (i := i) (by omega)
          rw [hGg i hlt] at g1
          have hsm := c_Same false false (W.getD i []) (W.getD i []) (by have := hWl _ (getD_mem (l := W) (i := i) (by omega) []); omega)
          rw [show ((W.getD i []) == (W.getD i [])) = true by simp] at hsm
          (repeat (first | refine awp_seq ?_ | refine awp_block ?_ | ((first | refine awp_skip ?_ | refine awp_exit ?_ | refine awp_reg ttok ?_ | (refine awp_draw ttok ?dr_calm ?_; (case dr_calm => decide +kernel)) | refine awp_condM ?_); simp (maxSteps := 4000000) only [↓reduceIte, Nat.reduceLT, Nat.reduceEqDiff, reduceCtorEq, Nat.reduceAdd, Nat.reduceMul, Int.reduceLE, Int.reduceLT, Int.reduceToNat, Nat.reduceLeDiff, Nat.reduceSub, Int.reduceEq, Nat.reduceBEq, evB, tyA, d7, iis_len]; (repeat (with_reducible refine And.intro ?_ ?_; exact sdX)); (with_reducible first | refine awp_id ?_ | refine id_call ?_ | refine id_and ?_ | refine id_ex ?_ | refine id_all ?_ | refine id_nat ?_ | refine id_le ?_))))
          refine awp_drawG ttok ((0, none) :: (1, none) :: (2, none) :: (3, none) :: (4, none) :: (5, none) :: (6, none) :: (7, none) :: (8, some []) :: (9, none) :: []) ([]) ([]) (by decide +kernel) fun O hO => ?_; simp only [OpsAre, Nat.reduceAdd, and_true, List.toList_toArray, List.append_eq, List.cons_append, List.nil_append] at hO; simp (maxSteps := 4000000) only [↓reduceIte, Nat.reduceLT, Nat.reduceEqDiff, reduceCtorEq, Nat.reduceAdd, Nat.reduceMul, Int.reduceLE, Int.reduceLT, Int.reduceToNat, Nat.reduceLeDiff, Nat.reduceSub, Int.reduceEq, Nat.reduceBEq, evB, tyA, hO, g1, g2, iis_len]; (repeat (with_reducible refine And.intro ?_ ?_; exact sdX))
          refine callVC_scal fnok12 hsm rfl ?_
          simp (maxSteps := 4000000) only [↓reduceIte, Nat.reduceLT, Nat.reduceEqDiff, reduceCtorEq, Nat.reduceAdd, Nat.reduceMul, Int.reduceLE, Int.reduceLT, Int.reduceToNat, Nat.reduceLeDiff, Nat.reduceSub, Int.reduceEq, Nat.reduceBEq, evB, tyA, hO, g1, g2, iis_len]
          (repeat (with_reducible refine And.intro ?_ ?_; exact sdX))
          (repeat (first | refine awp_seq ?_ | refine awp_block ?_ | ((first | refine awp_skip ?_ | refine awp_exit ?_ | refine awp_reg ttok ?_ | (refine awp_draw ttok ?dr_calm ?_; (case dr_calm => decide +kernel)) | refine awp_condM ?_); simp (maxSteps := 4000000) only [↓reduceIte, Nat.reduceLT, Nat.reduceEqDiff, reduceCtorEq, Nat.reduceAdd, Nat.reduceMul, Int.reduceLE, Int.reduceLT, Int.reduceToNat, Nat.reduceLeDiff, Nat.reduceSub, Int.reduceEq, Nat.reduceBEq, evB, tyA, w9]; (repeat (with_reducible refine And.intro ?_ ?_; exact sdX)); (with_reducible first | refine awp_id ?_ | refine id_call ?_ | refine id_and ?_ | refine id_ex ?_ | refine id_all ?_ | refine id_nat ?_ | refine id_le ?_))))
          refine ⟨i + 1, by omega, by omega, mkS_le rfl ?_ ?_⟩
          · exact evX
          · exact evX
        · have d7 : decide ((i : Int) < (G.length : Int)) = false := by simpa using hlt
          (repeat (first | refine awp_seq ?_ | refine awp_block ?_ | ((first | refine awp_skip ?_ | refine awp_exit ?_ | refine awp_reg ttok ?_ | (refine awp_draw ttok ?dr_calm ?_; (case dr_calm => decide +kernel)) | refine awp_condM ?_); simp (maxSteps := 4000000) only [↓reduceIte, Nat.reduceLT, Nat.reduceEqDiff, reduceCtorEq, Nat.reduceAdd, Nat.reduceMul, Int.reduceLE, Int.reduceLT, Int.reduceToNat, Nat.reduceLeDiff, Nat.reduceSub, Int.reduceEq, Nat.reduceBEq, evB, tyA, d7, iis_len]; (repeat (with_reducible refine And.intro ?_ ?_; exact sdX)); (with_reducible first | refine awp_id ?_ | refine id_call ?_ | refine id_and ?_ | refine id_ex ?_ | refine id_all ?_ | refine id_nat ?_ | refine id_le ?_))))
          refine callVC_mk fnok13 hSz rfl ?_
          simp (maxSteps := 4000000) only [↓reduceIte, Nat.reduceLT, Nat.reduceEqDiff, reduceCtorEq, Nat.reduceAdd, Nat.reduceMul, Int.reduceLE, Int.reduceLT, Int.reduceToNat, Nat.reduceLeDiff, Nat.reduceSub, Int.reduceEq, Nat.reduceBEq, evB, tyA]
          (repeat (with_reducible refine And.intro ?_ ?_; exact sdX))
          have k3 : (((0 : Nat) : Int) == 0) = true := rfl
          have k4 : ((iis []).length) = 0 := rfl
          (repeat (first | refine awp_seq ?_ | refine awp_block ?_ | ((first | refine awp_skip ?_ | refine awp_exit ?_ | refine awp_reg ttok ?_ | (refine awp_draw ttok ?dr_calm ?_; (case dr_calm => decide +kernel)) | refine awp_condM ?_); simp (maxSteps := 4000000) only [↓reduceIte, Nat.reduceLT, Nat.reduceEqDiff, reduceCtorEq, Nat.reduceAdd, Nat.reduceMul, Int.reduceLE, Int.reduceLT, Int.reduceToNat, Nat.reduceLeDiff, Nat.reduceSub, Int.reduceEq, Nat.reduceBEq, evB, tyA, k3, k4]; (repeat (with_reducible refine And.intro ?_ ?_; exact sdX)); (with_reducible first | refine awp_id ?_ | refine id_call ?_ | refine id_and ?_ | refine id_ex ?_ | refine id_all ?_ | refine id_nat ?_ | refine id_le ?_))))
          exact awp_ret (endsV [] (.inr rfl) (by simp (maxSteps := 4000000) only [↓reduceIte, Nat.reduceLT, Nat.reduceEqDiff, reduceCtorEq, Nat.reduceAdd, Nat.reduceMul, Int.reduceLE, Int.reduceLT, Int.reduceToNat, Nat.reduceLeDiff, Nat.reduceSub, Int.reduceEq, Nat.reduceBEq, evB, tyA]; rfl) trivial)
      · rintro e pre he hp ⟨⟩
end Go.Proofs.Ytglcnghfmdcdpaa
namespace Go.Proofs.Ytglcnghfmdcdpaa.wordsAll
open Go.ChangeShapes Go.WideShapes Go.ChangeAt Go.RowKit
open Go.Ab
theorem own : ownKnob Try.prog.godebug = none := by kernel_rfl
theorem laidOut : laidOutB Try.prog = true := by kernel_rfl
set_option maxRecDepth 100000 in
theorem lifted (os : Os) (started : os.Started) (H : Type) (enc : TypeId × Value → H) :
    ReturnsInHanded {} Try.checked os 3 .any (Rows.wordsAllSpec.pre6 enc Try.prog Try.f3 Rows.wordsAllRow.domain false) (Rows.wordsAllSpec.post enc Try.prog Try.f3 false true false false) := by
  refine returnsInHanded_of_change (C := Try.checked) own started (by kernel_rfl) Try.func3
    (ChangeSpec.witness6 (enc := enc) (C := Try.checked) false ⟨#[], #[.slice none 0 0, .int .i64 0, .agg #[.int .i64 0, .int .i64 0, .int .i64 0]], []⟩ 8 (by kernel_rfl) (by kernel_rfl) (by kernel_rfl) (by kernel_rfl)) ?_
  intro W base args ds gs before hval0 hW hcnd _
  have hval : ∀ (j : Nat) t v, Try.f3.params[j]? = some t → args[j]? = some v → Value.okWide Try.prog W .any base t v := hval0
  have hW' := hW
  obtain ⟨p, q, hA0, hV, rfl, hfz, hnd⟩ := hW
  have hA : DataW.TrodAll enc Try.prog W 0 (fun _ => true) true Try.f3.params.toList args.toList ds p := hA0
  rw [Try.params3] at hA hval
  obtain ⟨v0, vs0, d0, ds0, p0, q0, hargs, rfl, rfl, k0, r0⟩ := trodAll_cons hA
  obtain ⟨v1, vs1, d1, ds1, p1, q1, rfl, rfl, rfl, k1, r1⟩ := trodAll_cons r0
  obtain ⟨v2, vs2, d2, ds2, p2, q2, rfl, rfl, rfl, k2, r2⟩ := trodAll_cons r1
  obtain ⟨rfl, rfl, rfl⟩ := trodAll_nil r2
  obtain rfl : args = #[v0, v1, v2] := by cases args; simp_all
  obtain ⟨rfl, rfl⟩ := trodVars_none hV
  obtain ⟨a0, h0, e0⟩ := opensArg_slice Try.underlying22 (opens_slice Try.underlying22 (opens_arr3i Try.underlying23 (by kernel_rfl) (by kernel_rfl) Try.underlying3) (fun a => by kernel_rfl) (by decide +kernel)) H enc W base v0 d0 p0 (hval 0 _ v0 rfl rfl) k0
  obtain ⟨a1, h1, e1⟩ := opensArg_int Try.underlying3 (opens_i64 Try.underlying3) H enc W base v1 d1 p1 (hval 1 _ v1 rfl rfl) k1
  obtain ⟨a2, h2, e2⟩ := opensArg_agg Try.underlying23 rfl (opens_arr3i Try.underlying23 (by kernel_rfl) (by kernel_rfl) Try.underlying3) H enc W base v2 d2 p2 (hval 2 _ v2 rfl rfl) k2
  refine (law_walk (c_WordsAll false a0 a1 a2.1 a2.2.1 a2.2.2 h0.1) (vs := [v0, v1, v2]) ⟨e0, e1, e2, trivial⟩).mono fun e W' ⟨he, bel⟩ => ?_
  subst he
  exact ⟨_, rfl, law_end hW' rfl bel rfl rfl rfl rfl Try.underlying4 laidOut (by kernel_rfl)⟩
theorem proved : Rows.WordsAllSaid :=
  OpenClaim.holds_of_wide 3 Try.f3 rfl rfl rfl rfl rfl rfl rfl ⟨rfl, rfl, rfl, rfl, rfl⟩ rfl rfl rfl rfl rfl (by kernel_rfl) Try.func3 (by kernel_rfl)
    (of_decide_eq_true (by kernel_rfl)) (by unfold Func.isWrapper; first | (rw [if_pos (by decide +kernel)]; kernel_rfl) | (rw [if_neg (by decide +kernel)]; exact ⟨rfl, rfl⟩))
    (fun os started H enc _ => lifted os started H enc)
#print axioms proved
end Go.Proofs.Ytglcnghfmdcdpaa.wordsAll
