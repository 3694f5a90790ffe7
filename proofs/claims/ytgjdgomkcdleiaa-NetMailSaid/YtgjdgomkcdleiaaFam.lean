import Derived.Test.YtgjdgomkcdleiaaMa
import Derived.Test.YtgjdgomkcdleiaaFin
set_option linter.unusedSimpArgs false
set_option linter.unusedVariables false
namespace Go.Proofs.Ytgjdgomkcdleiaa
open Go.Ab
def mailD (H : HH) (T : TT) (r : Nat) : D := if wall H T r = true then .tup [.agg [i64 3, i64 r, .sl false (iss (bxs H T 9 0))], bo true] else .tup [.agg [i64 3, i64 r, .sl false (iss (nob 9))], bo false]
set_option maxRecDepth 20000 in
set_option maxHeartbeats 32000000 in
theorem c_Mail (H : HH) (T : TT) (r : Nat) (hr : 1 ≤ r ∧ r ≤ 8) (hH : ∀ i, (H i).length ≤ 1000) (hT : ∀ i, T i ≤ 1000) :
    Contract Try.prog 4 [.sl false (ims H T), i64 r] (mailD H T r) [] := by
  refine contract_of_awpV ttok (rs := [.cell 4 35, .tmp 5]) Try.func4 rfl Try.ntmps4 (by simp) rfl fun E => ?_
  have hN := c_New ((3 : Nat) : Int) (r : Int) 3 r (by decide) (by omega)
  have hN9 : (3 : Nat) * 3 = 9 := rfl
  rw [hN9] at hN
  have hil := ims_len H T
  have hnt : List.take 9 (nob 9) = nob 9 := rfl
  have hbt : ∀ m e, List.take 9 (bxs H T m e) = bxs H T m e := fun m e => List.take_of_length_le (by rw [bxs_len]; exact Nat.le_refl _)
  have hn9 : (iss (nob 9)).length = 9 := rfl
  (repeat (first | refine awp_seq ?_ | refine awp_block ?_ | ((first | refine awp_skip ?_ | refine awp_exit ?_ | refine awp_reg ttok ?_ | (refine awp_draw ttok ?dr_calm ?_; (case dr_calm => decide +kernel)) | refine awp_condM ?_); simp (maxSteps := 4000000) only [↓reduceIte, Nat.reduceLT, Nat.reduceEqDiff, reduceCtorEq, Nat.reduceAdd, Nat.reduceMul, Int.reduceLE, Int.reduceLT, Int.reduceToNat, Nat.reduceLeDiff, Nat.reduceSub, Int.reduceEq, Nat.reduceBEq, evB, tyA, hil]; (repeat (with_reducible refine And.intro ?_ ?_; exact sdX)); (with_reducible first | refine awp_id ?_ | refine id_call ?_ | refine id_and ?_ | refine id_ex ?_ | refine id_all ?_ | refine id_nat ?_ | refine id_le ?_))))
  refine callVC_mk fnok11 hN rfl ?_
  simp (maxSteps := 4000000) only [↓reduceIte, Nat.reduceLT, Nat.reduceEqDiff, reduceCtorEq, Nat.reduceAdd, Nat.reduceMul, Int.reduceLE, Int.reduceLT, Int.reduceToNat, Nat.reduceLeDiff, Nat.reduceSub, Int.reduceEq, Nat.reduceBEq, evB, tyA]
  (repeat (with_reducible refine And.intro ?_ ?_; exact sdX))
  (repeat (first | refine awp_seq ?_ | refine awp_block ?_ | ((first | refine awp_skip ?_ | refine awp_exit ?_ | refine awp_reg ttok ?_ | (refine awp_draw ttok ?dr_calm ?_; (case dr_calm => decide +kernel)) | refine awp_condM ?_); simp (maxSteps := 4000000) only [↓reduceIte, Nat.reduceLT, Nat.reduceEqDiff, reduceCtorEq, Nat.reduceAdd, Nat.reduceMul, Int.reduceLE, Int.reduceLT, Int.reduceToNat, Nat.reduceLeDiff, Nat.reduceSub, Int.reduceEq, Nat.reduceBEq, evB, tyA, hil]; (repeat (with_reducible refine And.intro ?_ ?_; exact sdX)); (with_reducible first | refine awp_id ?_ | refine id_call ?_ | refine id_and ?_ | refine id_ex ?_ | refine id_all ?_ | refine id_nat ?_ | refine id_le ?_))))
  refine awp_pureO 2004 (rows := [[i64 ((3 : Nat) : Int), i64 (r : Int), .sl false (iss (nob 9))]]) (by simp (maxSteps := 4000000) only [↓reduceIte, Nat.reduceLT, Nat.reduceEqDiff, reduceCtorEq, Nat.reduceAdd, Nat.reduceMul, Int.reduceLE, Int.reduceLT, Int.reduceToNat, Nat.reduceLeDiff, Nat.reduceSub, Int.reduceEq, Nat.reduceBEq, evB]; rfl) rfl (by simp (maxSteps := 4000000) only [↓reduceIte, Nat.reduceLT, Nat.reduceEqDiff, reduceCtorEq, Nat.reduceAdd, Nat.reduceMul, Int.reduceLE, Int.reduceLT, Int.reduceToNat, Nat.reduceLeDiff, Nat.reduceSub, Int.reduceEq, Nat.reduceBEq, evB, iss_take, hnt, hn9]; rfl) (by simp (maxSteps := 4000000) only [↓reduceIte, Nat.reduceLT, Nat.reduceEqDiff, reduceCtorEq, Nat.reduceAdd, Nat.reduceMul, Int.reduceLE, Int.reduceLT, Int.reduceToNat, Nat.reduceLeDiff, Nat.reduceSub, Int.reduceEq, Nat.reduceBEq, evB, hn9]) (by decide) ?_
  refine awp_loop (X := Nat) (fun i => mkS 71 [(0, .sl false (ims H T)), (1, i64 r), (4, .ptr 1000 0 0), (6, .ptr 2004 0 0), (18, i64 ((3 : Nat) : Int)), (19, i64 i)] [(1000, { sz := 3, rows := [[i64 0, i64 0, .sl true []]], flat := false }), (2004, { sz := 3, rows := [[i64 ((3 : Nat) : Int), i64 r, .sl false (iss (bxs H T (3 * i) 0))]] })])
    (fun i => i ≤ 3 ∧ ∀ j, j < 3 * i → wok H T r j = true) (fun i => 3 - i) 0 ⟨by omega, fun j hj => by omega⟩ (mkS_le rfl ?_ ?_) ?_
  · simp (maxSteps := 4000000) only [↓reduceIte, Nat.reduceLT, Nat.reduceEqDiff, reduceCtorEq, Nat.reduceAdd, Nat.reduceMul, Int.reduceLE, Int.reduceLT, Int.reduceToNat, Nat.reduceLeDiff, Nat.reduceSub, Int.reduceEq, Nat.reduceBEq, evB]
    try rfl
  · simp (maxSteps := 4000000) only [↓reduceIte, Nat.reduceLT, Nat.reduceEqDiff, reduceCtorEq, Nat.reduceAdd, Nat.reduceMul, Int.reduceLE, Int.reduceLT, Int.reduceToNat, Nat.reduceLeDiff, Nat.reduceSub, Int.reduceEq, Nat.reduceBEq, evB, bxs_zero, Nat.mul_zero]
    try rfl
  · rintro i ⟨hi, hok⟩
    by_cases hi3 : i < 3
    · have d1 : decide ((i : Int) < ((3 : Nat) : Int)) = true := by simp; omega
      have hwi : IntKind.i64.wrap ((i : Int) + 1) = ((i + 1 : Nat) : Int) := i64_in (by omega) (by omega)
      have gi := ims_get (H := H) (T := T) hi3
      (repeat (first | refine awp_seq ?_ | refine awp_block ?_ | ((first | refine awp_skip ?_ | refine awp_exit ?_ | refine awp_reg ttok ?_ | (refine awp_draw ttok ?dr_calm ?_; (case dr_calm => decide +kernel)) | refine awp_condM ?_); simp (maxSteps := 4000000) only [↓reduceIte, Nat.reduceLT, Nat.reduceEqDiff, reduceCtorEq, Nat.reduceAdd, Nat.reduceMul, Int.reduceLE, Int.reduceLT, Int.reduceToNat, Nat.reduceLeDiff, Nat.reduceSub, Int.reduceEq, Nat.reduceBEq, evB, tyA, d1, hil]; (repeat (with_reducible refine And.intro ?_ ?_; exact sdX)); (with_reducible first | refine awp_id ?_ | refine id_call ?_ | refine id_and ?_ | refine id_ex ?_ | refine id_all ?_ | refine id_nat ?_ | refine id_le ?_))))
      refine awp_loop (X := Nat) (fun k => mkS 71 [(0, .sl false (ims H T)), (1, i64 r), (4, .ptr 1000 0 0), (6, .ptr 2004 0 0), (7, i64 i), (18, i64 ((3 : Nat) : Int)), (19, i64 i), (23, i64 ((3 : Nat) : Int)), (24, i64 k)] [(1000, { sz := 3, rows := [[i64 0, i64 0, .sl true []]], flat := false }), (2004, { sz := 3, rows := [[i64 ((3 : Nat) : Int), i64 r, .sl false (iss (bxs H T (3 * i + k) 0))]] })])
        (fun k => k ≤ 3 ∧ ∀ j, j < 3 * i + k → wok H T r j = true) (fun k => 3 - k) 0 ⟨by omega, hok⟩ (mkS_le rfl ?_ ?_) ?_
      · simp (maxSteps := 4000000) only [↓reduceIte, Nat.reduceLT, Nat.reduceEqDiff, reduceCtorEq, Nat.reduceAdd, Nat.reduceMul, Int.reduceLE, Int.reduceLT, Int.reduceToNat, Nat.reduceLeDiff, Nat.reduceSub, Int.reduceEq, Nat.reduceBEq, evB]
        try rfl
      · simp (maxSteps := 4000000) only [↓reduceIte, Nat.reduceLT, Nat.reduceEqDiff, reduceCtorEq, Nat.reduceAdd, Nat.reduceMul, Int.reduceLE, Int.reduceLT, Int.reduceToNat, Nat.reduceLeDiff, Nat.reduceSub, Int.reduceEq, Nat.reduceBEq, evB, Nat.add_zero]
        try rfl
      · rintro k ⟨hk, hokk⟩
        by_cases hk3 : k < 3
        · have d2 : decide ((k : Int) < ((3 : Nat) : Int)) = true := by simp; omega
          have hwk : IntKind.i64.wrap ((k : Int) + 1) = ((k + 1 : Nat) : Int) := i64_in (by omega) (by omega)
          have gk := ims_get (H := H) (T := T) hk3
          have hm9 : 3 * i + k < 9 := by omega
          have hHm := hH (3 * i + k)
          have hTm := hT (3 * i + k)
          have hwl := wayP_len H T (3 * i + k)
          (repeat (first | refine awp_seq ?_ | refine awp_block ?_ | ((first | refine awp_skip ?_ | refine awp_exit ?_ | refine awp_reg ttok ?_ | (refine awp_draw ttok ?dr_calm ?_; (case dr_calm => decide +kernel)) | refine awp_condM ?_); simp (maxSteps := 4000000) only [↓reduceIte, Nat.reduceLT, Nat.reduceEqDiff, reduceCtorEq, Nat.reduceAdd, Nat.reduceMul, Int.reduceLE, Int.reduceLT, Int.reduceToNat, Nat.reduceLeDiff, Nat.reduceSub, Int.reduceEq, Nat.reduceBEq, evB, tyA, d2, hil]; (repeat (with_reducible refine And.intro ?_ ?_; exact sdX)); (with_reducible first | refine awp_id ?_ | refine id_call ?_ | refine id_and ?_ | refine id_ex ?_ | refine id_all ?_ | refine id_nat ?_ | refine id_le ?_))))
          refine awp_drawG ttok ((0, none) :: (1, none) :: (2, none) :: (3, none) :: (4, none) :: (5, none) :: (6, none) :: (7, none) :: (8, none) :: (9, none) :: (10, some []) :: (11, none) :: (12, none) :: (13, none) :: (14, none) :: (15, none) :: []) (0 :: 1 :: 2 :: 3 :: 4 :: 5 :: 6 :: 7 :: 8 :: 9 :: 10 :: 11 :: 12 :: 13 :: 14 :: 15 :: []) (0 :: 1 :: 2 :: 3 :: 4 :: 5 :: 6 :: 7 :: 8 :: 9 :: 10 :: 11 :: 12 :: 14 :: 13 :: 15 :: []) (by decide +kernel) fun O hO => ?_; simp only [OpsAre, Nat.reduceAdd, and_true, List.toList_toArray, List.append_eq, List.cons_append, List.nil_append] at hO; simp (maxSteps := 4000000) only [↓reduceIte, Nat.reduceLT, Nat.reduceEqDiff, reduceCtorEq, Nat.reduceAdd, Nat.reduceMul, Int.reduceLE, Int.reduceLT, Int.reduceToNat, Nat.reduceLeDiff, Nat.reduceSub, Int.reduceEq, Nat.reduceBEq, evB, tyA, hO, gi, gk, hil]; (repeat (with_reducible refine And.intro ?_ ?_; exact sdX))
          by_cases hw : T (3 * i + k) ≤ (H (3 * i + k)).length ∧ (H (3 * i + k)).length - T (3 * i + k) ≤ 8
          · have hW := c_WayYes H T i k hi3 hk3 hw.1 hw.2 hHm
            have hwt : List.take (wayP H T (3 * i + k)).length (wayP H T (3 * i + k)) = wayP H T (3 * i + k) := List.take_length
            refine callVC_mk fnok12 hW rfl ?_
            simp (maxSteps := 4000000) only [↓reduceIte, Nat.reduceLT, Nat.reduceEqDiff, reduceCtorEq, Nat.reduceAdd, Nat.reduceMul, Int.reduceLE, Int.reduceLT, Int.reduceToNat, Nat.reduceLeDiff, Nat.reduceSub, Int.reduceEq, Nat.reduceBEq, evB, tyA, hO]
            (repeat (with_reducible refine And.intro ?_ ?_; exact sdX))
            refine awp_pure 9 (d := .own 109010 0 (wayP H T (3 * i + k)).length) evX (by simp (maxSteps := 4000000) only [↓reduceIte, Nat.reduceLT, Nat.reduceEqDiff, reduceCtorEq, Nat.reduceAdd, Nat.reduceMul, Int.reduceLE, Int.reduceLT, Int.reduceToNat, Nat.reduceLeDiff, Nat.reduceSub, Int.reduceEq, Nat.reduceBEq, evB, ints_take, hwt]; rfl) (by simp (maxSteps := 4000000) only [↓reduceIte, Nat.reduceLT, Nat.reduceEqDiff, reduceCtorEq, Nat.reduceAdd, Nat.reduceMul, Int.reduceLE, Int.reduceLT, Int.reduceToNat, Nat.reduceLeDiff, Nat.reduceSub, Int.reduceEq, Nat.reduceBEq, evB, ints_len]) ?_
            have hwl8 : (wayP H T (3 * i + k)).length ≤ 8 := by omega
            (repeat (first | refine awp_seq ?_ | refine awp_block ?_ | ((first | refine awp_skip ?_ | refine awp_exit ?_ | refine awp_reg ttok ?_ | (refine awp_draw ttok ?dr_calm ?_; (case dr_calm => decide +kernel)) | refine awp_condM ?_); simp (maxSteps := 4000000) only [↓reduceIte, Nat.reduceLT, Nat.reduceEqDiff, reduceCtorEq, Nat.reduceAdd, Nat.reduceMul, Int.reduceLE, Int.reduceLT, Int.reduceToNat, Nat.reduceLeDiff, Nat.reduceSub, Int.reduceEq, Nat.reduceBEq, evB, tyA, ints_len]; (repeat (with_reducible refine And.intro ?_ ?_; exact sdX)); (with_reducible first | refine awp_id ?_ | refine id_call ?_ | refine id_and ?_ | refine id_ex ?_ | refine id_all ?_ | refine id_nat ?_ | refine id_le ?_))))
            refine awp_loop (X := Nat) (fun e => mkS 71 [(0, .sl false (ims H T)), (1, i64 r), (4, .ptr 1000 0 0), (6, .ptr 2004 0 0), (7, i64 i), (8, i64 k), (18, i64 ((3 : Nat) : Int)), (19, i64 i), (23, i64 ((3 : Nat) : Int)), (24, i64 k), (47, .sl false (ints (wayP H T (3 * i + k)))), (48, i64 (wayP H T (3 * i + k)).length), (49, i64 e)] [(1000, { sz := 3, rows := [[i64 0, i64 0, .sl true []]], flat := false }), (2004, { sz := 3, rows := [[i64 ((3 : Nat) : Int), i64 r, .sl false (iss (bxs H T (3 * i + k) e))]] })])
              (fun e => e ≤ (wayP H T (3 * i + k)).length ∧ e ≤ r) (fun e => (wayP H T (3 * i + k)).length - e) 0 ⟨Nat.zero_le _, Nat.zero_le _⟩ (mkS_le rfl ?_ ?_) ?_
            · simp (maxSteps := 4000000) only [↓reduceIte, Nat.reduceLT, Nat.reduceEqDiff, reduceCtorEq, Nat.reduceAdd, Nat.reduceMul, Int.reduceLE, Int.reduceLT, Int.reduceToNat, Nat.reduceLeDiff, Nat.reduceSub, Int.reduceEq, Nat.reduceBEq, evB, St.pureSlot, ints_len]
              try rfl
            · simp (maxSteps := 4000000) only [↓reduceIte, Nat.reduceLT, Nat.reduceEqDiff, reduceCtorEq, Nat.reduceAdd, Nat.reduceMul, Int.reduceLE, Int.reduceLT, Int.reduceToNat, Nat.reduceLeDiff, Nat.reduceSub, Int.reduceEq, Nat.reduceBEq, evB, St.pureSlot]
              try rfl
            · rintro e ⟨he, her⟩
              by_cases hlt : e < (wayP H T (3 * i + k)).length
              · have d3 : decide ((e : Int) < ((wayP H T (3 * i + k)).length : Int)) = true := by simpa using hlt
                have hwe : IntKind.i64.wrap ((e : Int) + 1) = ((e + 1 : Nat) : Int) := i64_in (by omega) (by omega)
                have ge := ints_get hlt
                have hat := bxs_at H T (e := e) hm9
                have hbs := bxs_set H T hm9 hlt
                have hbl := bxs_len H T (3 * i + k) e
                have htl : ((wayP H T (3 * i + k)).take e).length = e := by rw [List.length_take]; omega
                have hik : i * 3 + k = 3 * i + k := by omega
                by_cases hre : e < r
                · have hPu := c_PutYes false (bxs H T (3 * i + k) e) 3 r i k (3 * i + k) 9 ((wayP H T (3 * i + k)).getD e 0) _ (by decide) hi3 hk3 hik hbl rfl hat (by unfold bw; simp only; omega) hr.2
                  have hb2 : (bw ((wayP H T (3 * i + k)).take e)).2 = (wayP H T (3 * i + k)).take e := rfl
                  rw [hb2, hbs] at hPu
                  have hbl2 := bxs_len H T (3 * i + k) (e + 1)
                  have hbt2 := hbt (3 * i + k) (e + 1)
                  generalize (wayP H T (3 * i + k)).getD e 0 = x at *
                  (repeat (first | refine awp_seq ?_ | refine awp_block ?_ | ((first | refine awp_skip ?_ | refine awp_exit ?_ | refine awp_reg ttok ?_ | (refine awp_draw ttok ?dr_calm ?_; (case dr_calm => decide +kernel)) | refine awp_condM ?_); simp (maxSteps := 4000000) only [↓reduceIte, Nat.reduceLT, Nat.reduceEqDiff, reduceCtorEq, Nat.reduceAdd, Nat.reduceMul, Int.reduceLE, Int.reduceLT, Int.reduceToNat, Nat.reduceLeDiff, Nat.reduceSub, Int.reduceEq, Nat.reduceBEq, evB, tyA, d3, ge, ints_len]; (repeat (with_reducible refine And.intro ?_ ?_; exact sdX)); (with_reducible first | refine awp_id ?_ | refine id_call ?_ | refine id_and ?_ | refine id_ex ?_ | refine id_all ?_ | refine id_nat ?_ | refine id_le ?_))))
                  refine callVC_mk fnok13 hPu rfl ?_
                  simp (maxSteps := 4000000) only [↓reduceIte, Nat.reduceLT, Nat.reduceEqDiff, reduceCtorEq, Nat.reduceAdd, Nat.reduceMul, Int.reduceLE, Int.reduceLT, Int.reduceToNat, Nat.reduceLeDiff, Nat.reduceSub, Int.reduceEq, Nat.reduceBEq, evB, tyA, iss_len, hbl2, iss_take, hbt2]
                  (repeat (with_reducible refine And.intro ?_ ?_; exact sdX))
                  (repeat (first | refine awp_seq ?_ | refine awp_block ?_ | ((first | refine awp_skip ?_ | refine awp_exit ?_ | refine awp_reg ttok ?_ | (refine awp_draw ttok ?dr_calm ?_; (case dr_calm => decide +kernel)) | refine awp_condM ?_); simp (maxSteps := 4000000) only [↓reduceIte, Nat.reduceLT, Nat.reduceEqDiff, reduceCtorEq, Nat.reduceAdd, Nat.reduceMul, Int.reduceLE, Int.reduceLT, Int.reduceToNat, Nat.reduceLeDiff, Nat.reduceSub, Int.reduceEq, Nat.reduceBEq, evB, tyA, iss_len, hbl2, iss_take, hbt2, hwe]; (repeat (with_reducible refine And.intro ?_ ?_; exact sdX)); (with_reducible first | refine awp_id ?_ | refine id_call ?_ | refine id_and ?_ | refine id_ex ?_ | refine id_all ?_ | refine id_nat ?_ | refine id_le ?_))))
                  refine ⟨e + 1, ⟨by omega, by omega⟩, by omega, mkS_le rfl ?_ ?_⟩
                  · exact evX
                  · simp (maxSteps := 4000000) only [↓reduceIte, Nat.reduceLT, Nat.reduceEqDiff, reduceCtorEq, Nat.reduceAdd, Nat.reduceMul, Int.reduceLE, Int.reduceLT, Int.reduceToNat, Nat.reduceLeDiff, Nat.reduceSub, Int.reduceEq, Nat.reduceBEq, evB, iss_take, hbt2]
                · have hPu := c_PutFull false (bxs H T (3 * i + k) e) 3 r i k (3 * i + k) 9 ((wayP H T (3 * i + k)).getD e 0) _ (by decide) hi3 hk3 hik hbl rfl hat (by unfold bw; simp only; omega)
                  have hno : wall H T r = false := wall_no hm9 (by unfold wok; rw [Bool.and_eq_false_iff, decide_eq_false_iff_not, decide_eq_false_iff_not]; omega)
                  generalize (wayP H T (3 * i + k)).getD e 0 = x at *
                  (repeat (first | refine awp_seq ?_ | refine awp_block ?_ | ((first | refine awp_skip ?_ | refine awp_exit ?_ | refine awp_reg ttok ?_ | (refine awp_draw ttok ?dr_calm ?_; (case dr_calm => decide +kernel)) | refine awp_condM ?_); simp (maxSteps := 4000000) only [↓reduceIte, Nat.reduceLT, Nat.reduceEqDiff, reduceCtorEq, Nat.reduceAdd, Nat.reduceMul, Int.reduceLE, Int.reduceLT, Int.reduceToNat, Nat.reduceLeDiff, Nat.reduceSub, Int.reduceEq, Nat.reduceBEq, evB, tyA, d3, ge, ints_len]; (repeat (with_reducible refine And.intro ?_ ?_; exact sdX)); (with_reducible first | refine awp_id ?_ | refine id_call ?_ | refine id_and ?_ | refine id_ex ?_ | refine id_all ?_ | refine id_nat ?_ | refine id_le ?_))))
                  refine callVC_mk fnok13 hPu rfl ?_
                  simp (maxSteps := 4000000) only [↓reduceIte, Nat.reduceLT, Nat.reduceEqDiff, reduceCtorEq, Nat.reduceAdd, Nat.reduceMul, Int.reduceLE, Int.reduceLT, Int.reduceToNat, Nat.reduceLeDiff, Nat.reduceSub, Int.reduceEq, Nat.reduceBEq, evB, tyA, iss_len, hbl]
                  (repeat (with_reducible refine And.intro ?_ ?_; exact sdX))
                  (repeat (first | refine awp_seq ?_ | refine awp_block ?_ | ((first | refine awp_skip ?_ | refine awp_exit ?_ | refine awp_reg ttok ?_ | (refine awp_draw ttok ?dr_calm ?_; (case dr_calm => decide +kernel)) | refine awp_condM ?_); simp (maxSteps := 4000000) only [↓reduceIte, Nat.reduceLT, Nat.reduceEqDiff, reduceCtorEq, Nat.reduceAdd, Nat.reduceMul, Int.reduceLE, Int.reduceLT, Int.reduceToNat, Nat.reduceLeDiff, Nat.reduceSub, Int.reduceEq, Nat.reduceBEq, evB, tyA, hil]; (repeat (with_reducible refine And.intro ?_ ?_; exact sdX)); (with_reducible first | refine awp_id ?_ | refine id_call ?_ | refine id_and ?_ | refine id_ex ?_ | refine id_all ?_ | refine id_nat ?_ | refine id_le ?_))))
                  refine callVC_mk fnok11 hN rfl ?_
                  simp (maxSteps := 4000000) only [↓reduceIte, Nat.reduceLT, Nat.reduceEqDiff, reduceCtorEq, Nat.reduceAdd, Nat.reduceMul, Int.reduceLE, Int.reduceLT, Int.reduceToNat, Nat.reduceLeDiff, Nat.reduceSub, Int.reduceEq, Nat.reduceBEq, evB, tyA, hil]
                  (repeat (with_reducible refine And.intro ?_ ?_; exact sdX))
                  (repeat (first | refine awp_seq ?_ | refine awp_block ?_ | ((first | refine awp_skip ?_ | refine awp_exit ?_ | refine awp_reg ttok ?_ | (refine awp_draw ttok ?dr_calm ?_; (case dr_calm => decide +kernel)) | refine awp_condM ?_); simp (maxSteps := 4000000) only [↓reduceIte, Nat.reduceLT, Nat.reduceEqDiff, reduceCtorEq, Nat.reduceAdd, Nat.reduceMul, Int.reduceLE, Int.reduceLT, Int.reduceToNat, Nat.reduceLeDiff, Nat.reduceSub, Int.reduceEq, Nat.reduceBEq, evB, tyA]; (repeat (with_reducible refine And.intro ?_ ?_; exact sdX)); (with_reducible first | refine awp_id ?_ | refine id_call ?_ | refine id_and ?_ | refine id_ex ?_ | refine id_all ?_ | refine id_nat ?_ | refine id_le ?_))))
                  refine awp_pureO 1000 (rows := [[i64 ((3 : Nat) : Int), i64 (r : Int), .sl false (iss (nob 9))]]) (by simp (maxSteps := 4000000) only [↓reduceIte, Nat.reduceLT, Nat.reduceEqDiff, reduceCtorEq, Nat.reduceAdd, Nat.reduceMul, Int.reduceLE, Int.reduceLT, Int.reduceToNat, Nat.reduceLeDiff, Nat.reduceSub, Int.reduceEq, Nat.reduceBEq, evB]; rfl) rfl (by simp (maxSteps := 4000000) only [↓reduceIte, Nat.reduceLT, Nat.reduceEqDiff, reduceCtorEq, Nat.reduceAdd, Nat.reduceMul, Int.reduceLE, Int.reduceLT, Int.reduceToNat, Nat.reduceLeDiff, Nat.reduceSub, Int.reduceEq, Nat.reduceBEq, evB, iss_take, hnt, hn9]; rfl) (by simp (maxSteps := 4000000) only [↓reduceIte, Nat.reduceLT, Nat.reduceEqDiff, reduceCtorEq, Nat.reduceAdd, Nat.reduceMul, Int.reduceLE, Int.reduceLT, Int.reduceToNat, Nat.reduceLeDiff, Nat.reduceSub, Int.reduceEq, Nat.reduceBEq, evB, hn9]) (by decide) ?_
                  unfold mailD
                  rw [hno, if_neg (by decide)]
                  exact awp_ret (endsV [] (.inr rfl) (by simp (maxSteps := 4000000) only [↓reduceIte, Nat.reduceLT, Nat.reduceEqDiff, reduceCtorEq, Nat.reduceAdd, Nat.reduceMul, Int.reduceLE, Int.reduceLT, Int.reduceToNat, Nat.reduceLeDiff, Nat.reduceSub, Int.reduceEq, Nat.reduceBEq, evB, tyA]; rfl) trivial evX)
              · have d3 : decide ((e : Int) < ((wayP H T (3 * i + k)).length : Int)) = false := by simpa using hlt
                obtain rfl : e = (wayP H T (3 * i + k)).length := by omega
                have hnx := bxs_next H T (m := 3 * i + k)
                (repeat (first | refine awp_seq ?_ | refine awp_block ?_ | ((first | refine awp_skip ?_ | refine awp_exit ?_ | refine awp_reg ttok ?_ | (refine awp_draw ttok ?dr_calm ?_; (case dr_calm => decide +kernel)) | refine awp_condM ?_); simp (maxSteps := 4000000) only [↓reduceIte, Nat.reduceLT, Nat.reduceEqDiff, reduceCtorEq, Nat.reduceAdd, Nat.reduceMul, Int.reduceLE, Int.reduceLT, Int.reduceToNat, Nat.reduceLeDiff, Nat.reduceSub, Int.reduceEq, Nat.reduceBEq, evB, tyA, d3, hwk]; (repeat (with_reducible refine And.intro ?_ ?_; exact sdX)); (with_reducible first | refine awp_id ?_ | refine id_call ?_ | refine id_and ?_ | refine id_ex ?_ | refine id_all ?_ | refine id_nat ?_ | refine id_le ?_))))
                refine ⟨k + 1, ⟨by omega, fun j hj => ?_⟩, by omega, mkS_le rfl ?_ ?_⟩
                · rcases Nat.lt_or_ge j (3 * i + k) with z | z
                  · exact hokk j z
                  · obtain rfl : j = 3 * i + k := by omega
                    unfold wok
                    simp only [Bool.and_eq_true, decide_eq_true_eq]
                    omega
                · exact evX
                · simp (maxSteps := 4000000) only [↓reduceIte, Nat.reduceLT, Nat.reduceEqDiff, reduceCtorEq, Nat.reduceAdd, Nat.reduceMul, Int.reduceLE, Int.reduceLT, Int.reduceToNat, Nat.reduceLeDiff, Nat.reduceSub, Int.reduceEq, Nat.reduceBEq, evB, hnx, Nat.add_assoc]
          · have hW := c_WayNo H T i k hi3 hk3 hw hHm hTm
            have hno : wall H T r = false := wall_no hm9 (by unfold wok; rw [Bool.and_eq_false_iff, decide_eq_false_iff_not, decide_eq_false_iff_not]; omega)
            refine callVC_mk fnok12 hW rfl ?_
            simp (maxSteps := 4000000) only [↓reduceIte, Nat.reduceLT, Nat.reduceEqDiff, reduceCtorEq, Nat.reduceAdd, Nat.reduceMul, Int.reduceLE, Int.reduceLT, Int.reduceToNat, Nat.reduceLeDiff, Nat.reduceSub, Int.reduceEq, Nat.reduceBEq, evB, tyA, hO]
            (repeat (with_reducible refine And.intro ?_ ?_; exact sdX))
            (repeat (first | refine awp_seq ?_ | refine awp_block ?_ | ((first | refine awp_skip ?_ | refine awp_exit ?_ | refine awp_reg ttok ?_ | (refine awp_draw ttok ?dr_calm ?_; (case dr_calm => decide +kernel)) | refine awp_condM ?_); simp (maxSteps := 4000000) only [↓reduceIte, Nat.reduceLT, Nat.reduceEqDiff, reduceCtorEq, Nat.reduceAdd, Nat.reduceMul, Int.reduceLE, Int.reduceLT, Int.reduceToNat, Nat.reduceLeDiff, Nat.reduceSub, Int.reduceEq, Nat.reduceBEq, evB, tyA, hil]; (repeat (with_reducible refine And.intro ?_ ?_; exact sdX)); (with_reducible first | refine awp_id ?_ | refine id_call ?_ | refine id_and ?_ | refine id_ex ?_ | refine id_all ?_ | refine id_nat ?_ | refine id_le ?_))))
            refine callVC_mk fnok11 hN rfl ?_
            simp (maxSteps := 4000000) only [↓reduceIte, Nat.reduceLT, Nat.reduceEqDiff, reduceCtorEq, Nat.reduceAdd, Nat.reduceMul, Int.reduceLE, Int.reduceLT, Int.reduceToNat, Nat.reduceLeDiff, Nat.reduceSub, Int.reduceEq, Nat.reduceBEq, evB, tyA, hil]
            (repeat (with_reducible refine And.intro ?_ ?_; exact sdX))
            (repeat (first | refine awp_seq ?_ | refine awp_block ?_ | ((first | refine awp_skip ?_ | refine awp_exit ?_ | refine awp_reg ttok ?_ | (refine awp_draw ttok ?dr_calm ?_; (case dr_calm => decide +kernel)) | refine awp_condM ?_); simp (maxSteps := 4000000) only [↓reduceIte, Nat.reduceLT, Nat.reduceEqDiff, reduceCtorEq, Nat.reduceAdd, Nat.reduceMul, Int.reduceLE, Int.reduceLT, Int.reduceToNat, Nat.reduceLeDiff, Nat.reduceSub, Int.reduceEq, Nat.reduceBEq, evB, tyA]; (repeat (with_reducible refine And.intro ?_ ?_; exact sdX)); (with_reducible first | refine awp_id ?_ | refine id_call ?_ | refine id_and ?_ | refine id_ex ?_ | refine id_all ?_ | refine id_nat ?_ | refine id_le ?_))))
            refine awp_pureO 1000 (rows := [[i64 ((3 : Nat) : Int), i64 (r : Int), .sl false (iss (nob 9))]]) (by simp (maxSteps := 4000000) only [↓reduceIte, Nat.reduceLT, Nat.reduceEqDiff, reduceCtorEq, Nat.reduceAdd, Nat.reduceMul, Int.reduceLE, Int.reduceLT, Int.reduceToNat, Nat.reduceLeDiff, Nat.reduceSub, Int.reduceEq, Nat.reduceBEq, evB]; rfl) rfl (by simp (maxSteps := 4000000) only [↓reduceIte, Nat.reduceLT, Nat.reduceEqDiff, reduceCtorEq, Nat.reduceAdd, Nat.reduceMul, Int.reduceLE, Int.reduceLT, Int.reduceToNat, Nat.reduceLeDiff, Nat.reduceSub, Int.reduceEq, Nat.reduceBEq, evB, iss_take, hnt, hn9]; rfl) (by simp (maxSteps := 4000000) only [↓reduceIte, Nat.reduceLT, Nat.reduceEqDiff, reduceCtorEq, Nat.reduceAdd, Nat.reduceMul, Int.reduceLE, Int.reduceLT, Int.reduceToNat, Nat.reduceLeDiff, Nat.reduceSub, Int.reduceEq, Nat.reduceBEq, evB, hn9]) (by decide) ?_
            unfold mailD
            rw [hno, if_neg (by decide)]
            exact awp_ret (endsV [] (.inr rfl) (by simp (maxSteps := 4000000) only [↓reduceIte, Nat.reduceLT, Nat.reduceEqDiff, reduceCtorEq, Nat.reduceAdd, Nat.reduceMul, Int.reduceLE, Int.reduceLT, Int.reduceToNat, Nat.reduceLeDiff, Nat.reduceSub, Int.reduceEq, Nat.reduceBEq, evB, tyA]; rfl) trivial evX)
        · have d2 : decide ((k : Int) < ((3 : Nat) : Int)) = false := by simp; omega
          obtain rfl : k = 3 := by omega
          (repeat (first | refine awp_seq ?_ | refine awp_block ?_ | ((first | refine awp_skip ?_ | refine awp_exit ?_ | refine awp_reg ttok ?_ | (refine awp_draw ttok ?dr_calm ?_; (case dr_calm => decide +kernel)) | refine awp_condM ?_); simp (maxSteps := 4000000) only [↓reduceIte, Nat.reduceLT, Nat.reduceEqDiff, reduceCtorEq, Nat.reduceAdd, Nat.reduceMul, Int.reduceLE, Int.reduceLT, Int.reduceToNat, Nat.reduceLeDiff, Nat.reduceSub, Int.reduceEq, Nat.reduceBEq, evB, tyA, d2, hwi]; (repeat (with_reducible refine And.intro ?_ ?_; exact sdX)); (with_reducible first | refine awp_id ?_ | refine id_call ?_ | refine id_and ?_ | refine id_ex ?_ | refine id_all ?_ | refine id_nat ?_ | refine id_le ?_))))
          refine ⟨i + 1, ⟨by omega, fun j hj => hokk j (by omega)⟩, by omega, mkS_le rfl ?_ ?_⟩
          · exact evX
          · simp (maxSteps := 4000000) only [↓reduceIte, Nat.reduceLT, Nat.reduceEqDiff, reduceCtorEq, Nat.reduceAdd, Nat.reduceMul, Int.reduceLE, Int.reduceLT, Int.reduceToNat, Nat.reduceLeDiff, Nat.reduceSub, Int.reduceEq, Nat.reduceBEq, evB, Nat.mul_add, Nat.mul_one]
    · have d1 : decide ((i : Int) < ((3 : Nat) : Int)) = false := by simp; omega
      obtain rfl : i = 3 := by omega
      have hyes : wall H T r = true := wall_yes fun j hj => hok j (by omega)
      (repeat (first | refine awp_seq ?_ | refine awp_block ?_ | ((first | refine awp_skip ?_ | refine awp_exit ?_ | refine awp_reg ttok ?_ | (refine awp_draw ttok ?dr_calm ?_; (case dr_calm => decide +kernel)) | refine awp_condM ?_); simp (maxSteps := 4000000) only [↓reduceIte, Nat.reduceLT, Nat.reduceEqDiff, reduceCtorEq, Nat.reduceAdd, Nat.reduceMul, Int.reduceLE, Int.reduceLT, Int.reduceToNat, Nat.reduceLeDiff, Nat.reduceSub, Int.reduceEq, Nat.reduceBEq, evB, tyA, d1]; (repeat (with_reducible refine And.intro ?_ ?_; exact sdX)); (with_reducible first | refine awp_id ?_ | refine id_call ?_ | refine id_and ?_ | refine id_ex ?_ | refine id_all ?_ | refine id_nat ?_ | refine id_le ?_))))
      unfold mailD
      rw [hyes, if_pos rfl]
      exact awp_ret (endsV [] (.inr rfl) (by simp (maxSteps := 4000000) only [↓reduceIte, Nat.reduceLT, Nat.reduceEqDiff, reduceCtorEq, Nat.reduceAdd, Nat.reduceMul, Int.reduceLE, Int.reduceLT, Int.reduceToNat, Nat.reduceLeDiff, Nat.reduceSub, Int.reduceEq, Nat.reduceBEq, evB, tyA]; rfl) trivial evX)
set_option maxHeartbeats 16000000 in
theorem c_States (H : HH) (T : TT) : Contract Try.prog 6 [.sl false (ims H T)] (.own 0 0 3) [{ sz := 1, rows := ints [4, 5, 6] }] := by
  refine contract_of_awp (rs := [2]) Try.func6 rfl Try.ntmps6 (by simp) rfl fun E => ?_
  have hil := ims_len H T
  (repeat (first | refine awp_seq ?_ | refine awp_block ?_ | ((first | refine awp_skip ?_ | refine awp_exit ?_ | refine awp_reg ttok ?_ | (refine awp_draw ttok ?dr_calm ?_; (case dr_calm => decide +kernel)) | refine awp_condM ?_); simp (maxSteps := 4000000) only [↓reduceIte, Nat.reduceLT, Nat.reduceEqDiff, reduceCtorEq, Nat.reduceAdd, Nat.reduceMul, Int.reduceLE, Int.reduceLT, Int.reduceToNat, Nat.reduceLeDiff, Nat.reduceSub, Int.reduceEq, Nat.reduceBEq, evB, tyA, hil]; (repeat (with_reducible refine And.intro ?_ ?_; exact sdX)); (with_reducible first | refine awp_id ?_ | refine id_call ?_ | refine id_and ?_ | refine id_ex ?_ | refine id_all ?_ | refine id_nat ?_ | refine id_le ?_))))
  refine awp_own_nil 3 9000 1 evX (by decide) ?_
  refine awp_loop (X := Nat) (fun i => mkS 19 [(3, .own 9000 0 i), (6, .sl false (ims H T)), (7, i64 ((3 : Nat) : Int)), (8, i64 i)] [(9000, { sz := 1, rows := ints (([4, 5, 6] : List Int).take i) })]) (fun i => i ≤ 3) (fun i => 3 - i) 0 (Nat.zero_le _) (mkS_le rfl ?_ ?_) ?_
  · simp (maxSteps := 4000000) only [↓reduceIte, Nat.reduceLT, Nat.reduceEqDiff, reduceCtorEq, Nat.reduceAdd, Nat.reduceMul, Int.reduceLE, Int.reduceLT, Int.reduceToNat, Nat.reduceLeDiff, Nat.reduceSub, Int.reduceEq, Nat.reduceBEq, evB, St.toOwn, hil]
    try rfl
  · simp (maxSteps := 4000000) only [↓reduceIte, Nat.reduceLT, Nat.reduceEqDiff, reduceCtorEq, Nat.reduceAdd, Nat.reduceMul, Int.reduceLE, Int.reduceLT, Int.reduceToNat, Nat.reduceLeDiff, Nat.reduceSub, Int.reduceEq, Nat.reduceBEq, evB, St.toOwn]
    try rfl
  · intro i hi
    match i, hi with
    | 0, _ =>
      have d1 : decide (((0 : Nat) : Int) < ((3 : Nat) : Int)) = true := rfl
      have gi := ims_get (H := H) (T := T) (a := 0) (by decide)
      have hw : IntKind.i64.wrap (((0 : Nat) : Int) + 1) = ((1 : Nat) : Int) := rfl
      have e1 : ints (List.take 0 [4, 5, 6]) = [] := rfl
      have e2 : [] ++ [[i64 (((0 : Nat) : Int) + 4)]] = ints (List.take 1 [4, 5, 6]) := rfl
      (repeat (first | refine awp_seq ?_ | refine awp_block ?_ | ((first | refine awp_skip ?_ | refine awp_exit ?_ | refine awp_reg ttok ?_ | (refine awp_draw ttok ?dr_calm ?_; (case dr_calm => decide +kernel)) | refine awp_condM ?_); simp (maxSteps := 4000000) only [↓reduceIte, Nat.reduceLT, Nat.reduceEqDiff, reduceCtorEq, Nat.reduceAdd, Nat.reduceMul, Int.reduceLE, Int.reduceLT, Int.reduceToNat, Nat.reduceLeDiff, Nat.reduceSub, Int.reduceEq, Nat.reduceBEq, evB, tyA, d1, gi, hil, hw, e1, e2]; (repeat (with_reducible refine And.intro ?_ ?_; exact sdX)); (with_reducible first | refine awp_id ?_ | refine id_call ?_ | refine id_and ?_ | refine id_ex ?_ | refine id_all ?_ | refine id_nat ?_ | refine id_le ?_))))
      refine ⟨1, by omega, by omega, mkS_le rfl ?_ ?_⟩
      · exact evX
      · simp (maxSteps := 4000000) only [↓reduceIte, Nat.reduceLT, Nat.reduceEqDiff, reduceCtorEq, Nat.reduceAdd, Nat.reduceMul, Int.reduceLE, Int.reduceLT, Int.reduceToNat, Nat.reduceLeDiff, Nat.reduceSub, Int.reduceEq, Nat.reduceBEq, evB, e1, e2]
        try rfl
    | 1, _ =>
      have d1 : decide (((1 : Nat) : Int) < ((3 : Nat) : Int)) = true := rfl
      have gi := ims_get (H := H) (T := T) (a := 1) (by decide)
      have hw : IntKind.i64.wrap (((1 : Nat) : Int) + 1) = ((2 : Nat) : Int) := rfl
      have e1 : ints (List.take 1 [4, 5, 6]) = [[i64 4]] := rfl
      (repeat (first | refine awp_seq ?_ | refine awp_block ?_ | ((first | refine awp_skip ?_ | refine awp_exit ?_ | refine awp_reg ttok ?_ | (refine awp_draw ttok ?dr_calm ?_; (case dr_calm => decide +kernel)) | refine awp_condM ?_); simp (maxSteps := 4000000) only [↓reduceIte, Nat.reduceLT, Nat.reduceEqDiff, reduceCtorEq, Nat.reduceAdd, Nat.reduceMul, Int.reduceLE, Int.reduceLT, Int.reduceToNat, Nat.reduceLeDiff, Nat.reduceSub, Int.reduceEq, Nat.reduceBEq, evB, tyA, d1, gi, hil, hw, e1]; (repeat (with_reducible refine And.intro ?_ ?_; exact sdX)); (with_reducible first | refine awp_id ?_ | refine id_call ?_ | refine id_and ?_ | refine id_ex ?_ | refine id_all ?_ | refine id_nat ?_ | refine id_le ?_))))
      refine ⟨2, by omega, by omega, mkS_le rfl ?_ ?_⟩
      · exact evX
      · simp (maxSteps := 4000000) only [↓reduceIte, Nat.reduceLT, Nat.reduceEqDiff, reduceCtorEq, Nat.reduceAdd, Nat.reduceMul, Int.reduceLE, Int.reduceLT, Int.reduceToNat, Nat.reduceLeDiff, Nat.reduceSub, Int.reduceEq, Nat.reduceBEq, evB, e1]
        try rfl
    | 2, _ =>
      have d1 : decide (((2 : Nat) : Int) < ((3 : Nat) : Int)) = true := rfl
      have gi := ims_get (H := H) (T := T) (a := 2) (by decide)
      have hw : IntKind.i64.wrap (((2 : Nat) : Int) + 1) = ((3 : Nat) : Int) := rfl
      have e1 : ints (List.take 2 [4, 5, 6]) = [[i64 4], [i64 5]] := rfl
      (repeat (first | refine awp_seq ?_ | refine awp_block ?_ | ((first | refine awp_skip ?_ | refine awp_exit ?_ | refine awp_reg ttok ?_ | (refine awp_draw ttok ?dr_calm ?_; (case dr_calm => decide +kernel)) | refine awp_condM ?_); simp (maxSteps := 4000000) only [↓reduceIte, Nat.reduceLT, Nat.reduceEqDiff, reduceCtorEq, Nat.reduceAdd, Nat.reduceMul, Int.reduceLE, Int.reduceLT, Int.reduceToNat, Nat.reduceLeDiff, Nat.reduceSub, Int.reduceEq, Nat.reduceBEq, evB, tyA, d1, gi, hil, hw, e1]; (repeat (with_reducible refine And.intro ?_ ?_; exact sdX)); (with_reducible first | refine awp_id ?_ | refine id_call ?_ | refine id_and ?_ | refine id_ex ?_ | refine id_all ?_ | refine id_nat ?_ | refine id_le ?_))))
      refine ⟨3, by omega, by omega, mkS_le rfl ?_ ?_⟩
      · exact evX
      · simp (maxSteps := 4000000) only [↓reduceIte, Nat.reduceLT, Nat.reduceEqDiff, reduceCtorEq, Nat.reduceAdd, Nat.reduceMul, Int.reduceLE, Int.reduceLT, Int.reduceToNat, Nat.reduceLeDiff, Nat.reduceSub, Int.reduceEq, Nat.reduceBEq, evB, e1]
        try rfl
    | 3, _ =>
      have d1 : decide (((3 : Nat) : Int) < ((3 : Nat) : Int)) = false := rfl
      (repeat (first | refine awp_seq ?_ | refine awp_block ?_ | ((first | refine awp_skip ?_ | refine awp_exit ?_ | refine awp_reg ttok ?_ | (refine awp_draw ttok ?dr_calm ?_; (case dr_calm => decide +kernel)) | refine awp_condM ?_); simp (maxSteps := 4000000) only [↓reduceIte, Nat.reduceLT, Nat.reduceEqDiff, reduceCtorEq, Nat.reduceAdd, Nat.reduceMul, Int.reduceLE, Int.reduceLT, Int.reduceToNat, Nat.reduceLeDiff, Nat.reduceSub, Int.reduceEq, Nat.reduceBEq, evB, tyA, d1]; (repeat (with_reducible refine And.intro ?_ ?_; exact sdX)); (with_reducible first | refine awp_id ?_ | refine id_call ?_ | refine id_and ?_ | refine id_ex ?_ | refine id_all ?_ | refine id_nat ?_ | refine id_le ?_))))
      exact awp_ret (ends_own (g := 9000) (.inr rfl) evX evX rfl)
def updH (H : HH) (i : Nat) (l : List Int) : HH := fun j => if j = i then l else H j
def updT (T : TT) (i : Nat) (n : Nat) : TT := fun j => if j = i then n else T j
theorem sS_upd (H : HH) {a b : Nat} (hb : b < 3) (l : List Int) : sS (updH H (3 * a + b) l) a = (sS H a).set b ((l.length : Int), false, last8 l) := by
  apply List.ext_getElem
  · simp [sS]
  · intro j h1 h2
    have hj : j < 3 := by simpa [sS] using h1
    rw [List.getElem_set]
    simp only [sS, List.getElem_map, List.getElem_range, updH]
    by_cases e : b = j
    · subst e; simp
    · rw [if_neg e, if_neg (by omega)]
theorem sS_other (H : HH) {a b a' : Nat} (hb : b < 3) (hne : a' ≠ a) (l : List Int) : sS (updH H (3 * a + b) l) a' = sS H a' := by
  unfold sS
  apply List.map_congr_left
  intro j hj
  have := List.mem_range.1 hj
  unfold updH
  rw [if_neg (by omega)]
theorem tT_upd (T : TT) {a b : Nat} (ha : a < 3) (hb : b < 3) (n : Nat) : tT (updT T (3 * a + b) n) b = (tT T b).set a (n : Int) := by
  apply List.ext_getElem
  · simp [tT]
  · intro j h1 h2
    have hj : j < 3 := by simpa [tT] using h1
    rw [List.getElem_set]
    simp only [tT, List.getElem_map, List.getElem_range, updT]
    by_cases e : a = j
    · subst e; simp
    · rw [if_neg e, if_neg (by omega)]
theorem tT_other (T : TT) {a b b' : Nat} (hb : b < 3) (hb' : b' < 3) (hne : b' ≠ b) (n : Nat) : tT (updT T (3 * a + b) n) b' = tT T b' := by
  unfold tT
  apply List.map_congr_left
  intro j hj
  have := List.mem_range.1 hj
  unfold updT
  rw [if_neg (by omega)]
def wys (H : HH) (T : TT) : List (List D) := (List.range 9).map fun i => [.sl false (ints (wayP H T i))]
theorem wys_len (H : HH) (T : TT) : (wys H T).length = 9 := by simp [wys]
theorem wys_get {H : HH} {T : TT} {i : Nat} (h : i < 9) : (wys H T).getD i [] = [.sl false (ints (wayP H T i))] := by simp [wys, List.getD, h]
theorem wys_set {H H' : HH} {T T' : TT} {i : Nat} (hi : i < 9) {m : List Int} (h1 : wayP H' T' i = m) (h2 : ∀ j, j ≠ i → wayP H' T' j = wayP H T j) : (wys H T).set i [.sl false (ints m)] = wys H' T' := by
  apply List.ext_getElem
  · simp [wys]
  · intro j h1' h2'
    rw [List.getElem_set]
    simp only [wys, List.getElem_map, List.getElem_range]
    by_cases e : i = j
    · subst e; rw [if_pos rfl, h1]
    · rw [if_neg e, h2 j (fun z => e z.symm)]
theorem wayP_send (H : HH) (T : TT) {i : Nat} (x : Int) (h : T i ≤ (H i).length) : wayP (updH H i (H i ++ [x])) T i = wayP H T i ++ [x] := by
  unfold wayP updH
  rw [if_pos rfl, List.drop_append_of_le_length h]
theorem wayP_sendO (H : HH) (T : TT) {i : Nat} (l : List Int) {j : Nat} (h : j ≠ i) : wayP (updH H i l) T j = wayP H T j := by
  unfold wayP updH
  rw [if_neg h]
theorem wayP_take (H : HH) (T : TT) (i : Nat) : wayP H (updT T i (T i + 1)) i = (wayP H T i).drop 1 := by
  unfold wayP updT
  rw [if_pos rfl, List.drop_drop]
theorem wayP_takeO (H : HH) (T : TT) {i : Nat} (n : Nat) {j : Nat} (h : j ≠ i) : wayP H (updT T i n) j = wayP H T j := by
  unfold wayP updT
  rw [if_neg h]
def wle (H : HH) (T : TT) (r n : Nat) : Bool := (List.range n).all fun i => decide ((wayP H T i).length ≤ r)
def wct (H : HH) (T : TT) : Nat → Nat
  | 0 => 0
  | n + 1 => wct H T n + (wayP H T n).length
theorem wle_succ (H : HH) (T : TT) (r n : Nat) : wle H T r (n + 1) = (wle H T r n && decide ((wayP H T n).length ≤ r)) := by
  simp [wle, List.range_succ]
theorem wle_all {H : HH} {T : TT} (r : Nat) (h : ∀ i, i < 9 → T i ≤ (H i).length) : wle H T r 9 = wall H T r := by
  unfold wle wall
  rw [Bool.eq_iff_iff, List.all_eq_true, List.all_eq_true]
  constructor
  · intro g i hi
    have := g i hi
    have h1 := h i (List.mem_range.1 hi)
    rw [wayP_len, decide_eq_true_eq] at this
    unfold wok
    simp only [Bool.and_eq_true, decide_eq_true_eq]
    exact ⟨h1, this⟩
  · intro g i hi
    have := g i hi
    unfold wok at this
    simp only [Bool.and_eq_true, decide_eq_true_eq] at this
    rw [wayP_len, decide_eq_true_eq]
    exact this.2
theorem wct_le {H : HH} {T : TT} (h : ∀ i, (H i).length ≤ 1000) : ∀ n, wct H T n ≤ 1000 * n
  | 0 => Nat.le_refl _
  | n + 1 => by
    have := wct_le (T := T) h n
    have h1 := h n
    have h2 := wayP_len H T n
    rw [wct]; omega
theorem bxs_all (H : HH) (T : TT) {i : Nat} (h : i < 9) : boxAt (bxs H T 9 0) i = bw (wayP H T i) := by
  unfold boxAt bxs
  simp [List.getD, h]
theorem cnt_bxs (H : HH) (T : TT) : cnt (bxs H T 9 0) = wct H T 9 := by
  simp only [cnt, bxs, List.map_map, wct]
  simp [List.range, List.range.loop, bw]
  omega
theorem cnt_nob : cnt (nob 9) = 0 := rfl
theorem sents_set (l : List (Int × Bool × List Int)) (i : Nat) (c : Int) (m : List Int) : (sents l).set i [i64 c, .sl false (ints m)] = sents (l.set i (c, false, m)) := by simp [sents, List.map_set, sentRow]
theorem set_at {α : Type} {l : List α} {i : Nat} (h : i < l.length) (x : α) : (l.set i x)[i]? = some x := by simp [h]
def tri (l : List (Int × Int × Int)) : List (List D) := l.map fun x => [i64 x.1, i64 x.2.1, i64 x.2.2]
theorem tri_len (l : List (Int × Int × Int)) : (tri l).length = l.length := by simp [tri]
theorem tri_get {l : List (Int × Int × Int)} {i : Nat} (h : i < l.length) : (tri l).getD i [] = [i64 (l.getD i (0, 0, 0)).1, i64 (l.getD i (0, 0, 0)).2.1, i64 (l.getD i (0, 0, 0)).2.2] := by
  simp [tri, List.getD, List.getElem?_eq_getElem h]
end Go.Proofs.Ytgjdgomkcdleiaa
