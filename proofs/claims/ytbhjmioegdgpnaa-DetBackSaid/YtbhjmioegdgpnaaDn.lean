/-
  The contract of det.Nfa.
-/
import Derived.Test.YtbhjmioegdgpnaaRw
import Derived.Test.YtbhjmioegdgpnaaRn
import Derived.Test.YtbhjmioegdgpnaaLv
import Derived.Test.YtbhjmioegdgpnaaMay
namespace Go.Proofs.Ytbhjmioegdgpnaa
open Go.Ab
set_option linter.unusedSimpArgs false
set_option linter.unusedVariables false

def rowLen (N : List (List Int)) (r : Nat) : Nat := (rowM (N.getD r [])).length
def rowObj (N : List (List Int)) (r : Nat) : AObj := { sz := 2, rows := mvs (rowM (N.getD r [])) }
theorem ownRowsV_app (n : Nat) (g : Nat → Nat) : ownRowsV n g ++ [[D.own (n + 90000) 0 (g n)]] = ownRowsV (n + 1) g := by simp [ownRowsV, List.range_succ]
theorem ownRowsV_take (n : Nat) (g : Nat → Nat) : (ownRowsV n g).take n = ownRowsV n g := List.take_of_length_le (by simp [ownRowsV])
theorem ownRowsV_killN {n : Nat} {g : Nat → Nat} : (ownRowsV n g).map (D.killL (n + 90000)) = ownRowsV n g := by
  simp only [ownRowsV, List.map_map]
  apply List.map_congr_left
  intro r hr
  have := List.mem_range.1 hr
  simp only [Function.comp, D.killL, D.kill]
  rw [if_neg (by omega)]

set_option maxRecDepth 20000 in
set_option maxHeartbeats 32000000 in
theorem c_DNfa {L k : Nat} {N : List (List Int)} (h : NOk L k N) (hL : L ≤ 1000) (hk : 1 ≤ k ∧ k ≤ 2000) (st : Nat) (F : List Bool) (hF : F.length = k) : Contract Try.prog 25 [dfaD L st F N] (nfaD L st F (movD N)) [] := by
  refine contract_of_awpV ttok (rs := [.cell 2 27]) Try.func25 rfl Try.ntmps25 (by simp) rfl fun E => ?_
  have hl := h.len
  have hCl := c_CloneBo false F (by omega) (by rintro rfl; simp at hF; omega)
  (repeat (first | refine awp_seq ?_ | refine awp_block ?_ | ((first | refine awp_skip ?_ | refine awp_exit ?_ | refine awp_reg ttok ?_ | (refine awp_draw ttok ?dr_calm ?_; (case dr_calm => decide +kernel)) | refine awp_condM ?_); simp (maxSteps := 4000000) only [↓reduceIte, Nat.reduceLT, Nat.reduceEqDiff, reduceCtorEq, Nat.reduceAdd, Nat.reduceMul, Int.reduceLE, Int.reduceLT, Int.reduceToNat, Nat.reduceLeDiff, Nat.reduceSub, Int.reduceEq, Nat.reduceBEq, List.replicate, List.set, if_false, if_true, ne_eq, false_implies, implies_true, evA, tyA, dfaD]; (repeat (with_reducible refine And.intro ?_ ?_; focus ((repeat' with_reducible apply And.intro) <;> (first | omega | with_reducible trivial | with_reducible assumption)))); (with_reducible first | refine awp_id ?_ | refine id_call ?_ | refine id_and ?_ | refine id_ex ?_ | refine id_all ?_ | refine id_nat ?_ | refine id_le ?_))))
  refine awp_drawS ttok (mkS 48 [(1, .ptr 1000 0 0), (2, .ptr 1001 0 0), (3, .ptr 2008 0 0)] [(1000, { sz := 4, rows := [[i64 L, i64 st, .sl false (bos F), .sl false (iis N)]], flat := false }), (1001, { sz := 4, rows := [[i64 0, i64 0, .sl true [], .sl true []]], flat := false }), (102006, { sz := 1, rows := bos F }), (2008, { sz := 4, rows := [[i64 L, i64 st, .own 102006 0 F.length, .sl true []]], flat := false })]) (.nd 6 8 .lf .lf) [((0, none) :: (1, none) :: (2, none) :: (3, none) :: (4, none) :: (5, none) :: (8, some [0, 1, 2, 3, 4, 5]) :: (6, some [0, 1, 2, 3]) :: (7, none) :: (9, some []) :: []), ((0, none) :: (1, none) :: (2, none) :: (3, none) :: (4, none) :: (5, none) :: (6, some [0, 1, 2, 3]) :: (7, none) :: (8, some [0, 1, 2, 3, 7]) :: (9, some []) :: [])] [0, 1, 2, 3, 4, 5, 6, 7, 8, 9] [] [] (by decide +kernel) ?_ (fun O hO => ?_)
  rotate_left
  · simp only [OpsAre, Nat.reduceAdd, and_true] at hO
    simp only [aopsS_cons, aopsS_nil, and_true]
    repeat' apply And.intro
    all_goals
      simp (maxSteps := 4000000) only [↓reduceIte, Nat.reduceLT, Nat.reduceEqDiff, reduceCtorEq, Nat.reduceAdd, Nat.reduceMul, Int.reduceLE, Int.reduceLT, Int.reduceToNat, Nat.reduceLeDiff, Nat.reduceSub, Int.reduceEq, Nat.reduceBEq, List.replicate, List.set, if_false, if_true, ne_eq, false_implies, implies_true, evA, tyA, hO, bos_len, bos_take]; (repeat (with_reducible refine And.intro ?_ ?_; focus ((repeat' with_reducible apply And.intro) <;> (first | omega | with_reducible trivial | with_reducible assumption))))
      refine callVC_mk fnok41 hCl rfl ?_
      simp (maxSteps := 4000000) only [↓reduceIte, Nat.reduceLT, Nat.reduceEqDiff, reduceCtorEq, Nat.reduceAdd, Nat.reduceMul, Int.reduceLE, Int.reduceLT, Int.reduceToNat, Nat.reduceLeDiff, Nat.reduceSub, Int.reduceEq, Nat.reduceBEq, List.replicate, List.set, if_false, if_true, ne_eq, false_implies, implies_true, evA, tyA, hO, bos_len, bos_take]
      (repeat (with_reducible refine And.intro ?_ ?_; focus ((repeat' with_reducible apply And.intro) <;> (first | omega | with_reducible trivial | with_reducible assumption))))
      refine mkS_le rfl ?_ ?_
      · simp (maxSteps := 4000000) only [↓reduceIte, Nat.reduceLT, Nat.reduceEqDiff, reduceCtorEq, Nat.reduceAdd, Nat.reduceMul, Int.reduceLE, Int.reduceLT, Int.reduceToNat, Nat.reduceLeDiff, Nat.reduceSub, Int.reduceEq, Nat.reduceBEq, List.replicate, List.set, if_false, if_true, ne_eq, false_implies, implies_true, evA]
      · simp (maxSteps := 4000000) only [↓reduceIte, Nat.reduceLT, Nat.reduceEqDiff, reduceCtorEq, Nat.reduceAdd, Nat.reduceMul, Int.reduceLE, Int.reduceLT, Int.reduceToNat, Nat.reduceLeDiff, Nat.reduceSub, Int.reduceEq, Nat.reduceBEq, List.replicate, List.set, if_false, if_true, ne_eq, false_implies, implies_true, evA]
  (repeat (first | refine awp_seq ?_ | refine awp_block ?_ | ((first | refine awp_skip ?_ | refine awp_exit ?_ | refine awp_reg ttok ?_ | (refine awp_draw ttok ?dr_calm ?_; (case dr_calm => decide +kernel)) | refine awp_condM ?_); simp (maxSteps := 4000000) only [↓reduceIte, Nat.reduceLT, Nat.reduceEqDiff, reduceCtorEq, Nat.reduceAdd, Nat.reduceMul, Int.reduceLE, Int.reduceLT, Int.reduceToNat, Nat.reduceLeDiff, Nat.reduceSub, Int.reduceEq, Nat.reduceBEq, List.replicate, List.set, if_false, if_true, ne_eq, false_implies, implies_true, evA, tyA, iis_len, hl]; (repeat (with_reducible refine And.intro ?_ ?_; focus ((repeat' with_reducible apply And.intro) <;> (first | omega | with_reducible trivial | with_reducible assumption)))); (with_reducible first | refine awp_id ?_ | refine id_call ?_ | refine id_and ?_ | refine id_ex ?_ | refine id_all ?_ | refine id_nat ?_ | refine id_le ?_))))
  refine awp_own_nilC 2008 0 3 80002 1 (by decide) (by simp (maxSteps := 4000000) only [↓reduceIte, Nat.reduceLT, Nat.reduceEqDiff, reduceCtorEq, Nat.reduceAdd, Nat.reduceMul, Int.reduceLE, Int.reduceLT, Int.reduceToNat, Nat.reduceLeDiff, Nat.reduceSub, Int.reduceEq, Nat.reduceBEq, List.replicate, List.set, if_false, if_true, ne_eq, false_implies, implies_true, evA]; rfl) rfl rfl rfl ?_
  refine awp_unflat 80002 ?_
  have hrl : ∀ r, rowLen N r ≤ 1000 := fun r => by
    rcases Nat.lt_or_ge r N.length with q | q
    · have h1 := rowP_len (N.getD r []) (N.getD r []).length
      have h2 := (h.get (s := r) (by omega)).1
      unfold rowLen rowM; omega
    · unfold rowLen
      rw [List.getD_eq_getElem?_getD, List.getElem?_eq_none q]
      simp [rowM, rowP]
  refine awp_loop (X := Nat) (fun i => mkS 48 [(2, .ptr 1001 0 0), (3, .ptr 2008 0 0), (18, .sl false (iis N)), (19, i64 k), (20, i64 i)]
      ([(1001, { sz := 4, rows := [[i64 0, i64 0, .sl true [], .sl true []]], flat := false }), (102006, { sz := 1, rows := bos F }), (2008, { sz := 4, rows := [[i64 L, i64 st, .own 102006 0 F.length, .own 80002 0 i]], flat := false }), (80002, { sz := 1, rows := ownRowsV i (rowLen N), flat := false })] ++ fam i (rowObj N)))
    (fun i => i ≤ k) (fun i => k - i) 0 (Nat.zero_le _) (mkS_le rfl ?_ ?_) ?_
  · simp (maxSteps := 4000000) only [↓reduceIte, Nat.reduceLT, Nat.reduceEqDiff, reduceCtorEq, Nat.reduceAdd, Nat.reduceMul, Int.reduceLE, Int.reduceLT, Int.reduceToNat, Nat.reduceLeDiff, Nat.reduceSub, Int.reduceEq, Nat.reduceBEq, List.replicate, List.set, if_false, if_true, ne_eq, false_implies, implies_true, evA]
    try rfl
  · simp (maxSteps := 4000000) only [↓reduceIte, Nat.reduceLT, Nat.reduceEqDiff, reduceCtorEq, Nat.reduceAdd, Nat.reduceMul, Int.reduceLE, Int.reduceLT, Int.reduceToNat, Nat.reduceLeDiff, Nat.reduceSub, Int.reduceEq, Nat.reduceBEq, List.replicate, List.set, if_false, if_true, ne_eq, false_implies, implies_true, evA, fam, List.range_zero, ownRowsV, List.map_nil]
    try rfl
  · intro i hi
    by_cases hlt : i < k
    · have d1 : decide ((i : Int) < (k : Int)) = true := by simpa using hlt
      have hgi := iis_get (l := N) (i := i) (by omega)
      have hrw := (h.get hlt).1
      have hM : rowObj N i = { sz := 2, rows := mvs (rowM (N.getD i [])) } := rfl
      have hMl : rowLen N i = (rowM (N.getD i [])).length := rfl
      have hRM : rowM (N.getD i []) = rowP (N.getD i []) (N.getD i []).length := rfl
      generalize N.getD i [] = r at *
      have h12 : (i = 12006) = False := eq_false (by omega)
      have h12r : ∀ r, r < i → (r = 12006) = False := fun r hr => eq_false (by omega)
      ((repeat (first | refine awp_seq ?_ | refine awp_block ?_)); ((first | refine awp_skip ?_ | refine awp_exit ?_ | refine awp_reg ttok ?_ | (refine awp_draw ttok ?dr_calm ?_; (case dr_calm => decide +kernel)) | refine awp_condM ?_); simp (maxSteps := 4000000) only [↓reduceIte, Nat.reduceLT, Nat.reduceEqDiff, reduceCtorEq, Nat.reduceAdd, Nat.reduceMul, Int.reduceLE, Int.reduceLT, Int.reduceToNat, Nat.reduceLeDiff, Nat.reduceSub, Int.reduceEq, Nat.reduceBEq, List.replicate, List.set, if_false, if_true, ne_eq, false_implies, implies_true, evA, tyA, d1, hgi, iis_len, hl]; (repeat (with_reducible refine And.intro ?_ ?_; focus ((repeat' with_reducible apply And.intro) <;> (first | omega | with_reducible trivial | with_reducible assumption)))); (with_reducible first | refine awp_id ?_ | refine id_call ?_ | refine id_and ?_ | refine id_ex ?_ | refine id_all ?_ | refine id_nat ?_ | refine id_le ?_)))
      ((repeat (first | refine awp_seq ?_ | refine awp_block ?_)); ((first | refine awp_skip ?_ | refine awp_exit ?_ | refine awp_reg ttok ?_ | (refine awp_draw ttok ?dr_calm ?_; (case dr_calm => decide +kernel)) | refine awp_condM ?_); simp (maxSteps := 4000000) only [↓reduceIte, Nat.reduceLT, Nat.reduceEqDiff, reduceCtorEq, Nat.reduceAdd, Nat.reduceMul, Int.reduceLE, Int.reduceLT, Int.reduceToNat, Nat.reduceLeDiff, Nat.reduceSub, Int.reduceEq, Nat.reduceBEq, List.replicate, List.set, if_false, if_true, ne_eq, false_implies, implies_true, evA, tyA, d1, hgi, iis_len, hl]; (repeat (with_reducible refine And.intro ?_ ?_; focus ((repeat' with_reducible apply And.intro) <;> (first | omega | with_reducible trivial | with_reducible assumption)))); (with_reducible first | refine awp_id ?_ | refine id_call ?_ | refine id_and ?_ | refine id_ex ?_ | refine id_all ?_ | refine id_nat ?_ | refine id_le ?_)))
      ((repeat (first | refine awp_seq ?_ | refine awp_block ?_)); ((first | refine awp_skip ?_ | refine awp_exit ?_ | refine awp_reg ttok ?_ | (refine awp_draw ttok ?dr_calm ?_; (case dr_calm => decide +kernel)) | refine awp_condM ?_); simp (maxSteps := 4000000) only [↓reduceIte, Nat.reduceLT, Nat.reduceEqDiff, reduceCtorEq, Nat.reduceAdd, Nat.reduceMul, Int.reduceLE, Int.reduceLT, Int.reduceToNat, Nat.reduceLeDiff, Nat.reduceSub, Int.reduceEq, Nat.reduceBEq, List.replicate, List.set, if_false, if_true, ne_eq, false_implies, implies_true, evA, tyA, d1, hgi, iis_len, hl]; (repeat (with_reducible refine And.intro ?_ ?_; focus ((repeat' with_reducible apply And.intro) <;> (first | omega | with_reducible trivial | with_reducible assumption)))); (with_reducible first | refine awp_id ?_ | refine id_call ?_ | refine id_and ?_ | refine id_ex ?_ | refine id_all ?_ | refine id_nat ?_ | refine id_le ?_)))
      ((repeat (first | refine awp_seq ?_ | refine awp_block ?_)); ((first | refine awp_skip ?_ | refine awp_exit ?_ | refine awp_reg ttok ?_ | (refine awp_draw ttok ?dr_calm ?_; (case dr_calm => decide +kernel)) | refine awp_condM ?_); simp (maxSteps := 4000000) only [↓reduceIte, Nat.reduceLT, Nat.reduceEqDiff, reduceCtorEq, Nat.reduceAdd, Nat.reduceMul, Int.reduceLE, Int.reduceLT, Int.reduceToNat, Nat.reduceLeDiff, Nat.reduceSub, Int.reduceEq, Nat.reduceBEq, List.replicate, List.set, if_false, if_true, ne_eq, false_implies, implies_true, evA, tyA, d1, hgi, iis_len, hl]; (repeat (with_reducible refine And.intro ?_ ?_; focus ((repeat' with_reducible apply And.intro) <;> (first | omega | with_reducible trivial | with_reducible assumption)))); (with_reducible first | refine awp_id ?_ | refine id_call ?_ | refine id_and ?_ | refine id_ex ?_ | refine id_all ?_ | refine id_nat ?_ | refine id_le ?_)))
      ((repeat (first | refine awp_seq ?_ | refine awp_block ?_)); ((first | refine awp_skip ?_ | refine awp_exit ?_ | refine awp_reg ttok ?_ | (refine awp_draw ttok ?dr_calm ?_; (case dr_calm => decide +kernel)) | refine awp_condM ?_); simp (maxSteps := 4000000) only [↓reduceIte, Nat.reduceLT, Nat.reduceEqDiff, reduceCtorEq, Nat.reduceAdd, Nat.reduceMul, Int.reduceLE, Int.reduceLT, Int.reduceToNat, Nat.reduceLeDiff, Nat.reduceSub, Int.reduceEq, Nat.reduceBEq, List.replicate, List.set, if_false, if_true, ne_eq, false_implies, implies_true, evA, tyA, d1, hgi, iis_len, hl]; (repeat (with_reducible refine And.intro ?_ ?_; focus ((repeat' with_reducible apply And.intro) <;> (first | omega | with_reducible trivial | with_reducible assumption)))); (with_reducible first | refine awp_id ?_ | refine id_call ?_ | refine id_and ?_ | refine id_ex ?_ | refine id_all ?_ | refine id_nat ?_ | refine id_le ?_)))
      refine awp_own_nil 6 (i + 90000) 2 (by simp (maxSteps := 4000000) only [↓reduceIte, Nat.reduceLT, Nat.reduceEqDiff, reduceCtorEq, Nat.reduceAdd, Nat.reduceMul, Int.reduceLE, Int.reduceLT, Int.reduceToNat, Nat.reduceLeDiff, Nat.reduceSub, Int.reduceEq, Nat.reduceBEq, List.replicate, List.set, if_false, if_true, ne_eq, false_implies, implies_true, evA]) (by decide) ?_
      (repeat (first | refine awp_seq ?_ | refine awp_block ?_ | ((first | refine awp_skip ?_ | refine awp_exit ?_ | refine awp_reg ttok ?_ | (refine awp_draw ttok ?dr_calm ?_; (case dr_calm => decide +kernel)) | refine awp_condM ?_); simp (maxSteps := 4000000) only [↓reduceIte, Nat.reduceLT, Nat.reduceEqDiff, reduceCtorEq, Nat.reduceAdd, Nat.reduceMul, Int.reduceLE, Int.reduceLT, Int.reduceToNat, Nat.reduceLeDiff, Nat.reduceSub, Int.reduceEq, Nat.reduceBEq, List.replicate, List.set, if_false, if_true, ne_eq, false_implies, implies_true, evA, tyA, St.toOwn, ints_len, hrw]; (repeat (with_reducible refine And.intro ?_ ?_; focus ((repeat' with_reducible apply And.intro) <;> (first | omega | with_reducible trivial | with_reducible assumption)))); (with_reducible first | refine awp_id ?_ | refine id_call ?_ | refine id_and ?_ | refine id_ex ?_ | refine id_all ?_ | refine id_nat ?_ | refine id_le ?_))))
      refine awp_loop (X := Nat) (fun j => mkS 48 [(2, .ptr 1001 0 0), (3, .ptr 2008 0 0), (18, .sl false (iis N)), (19, i64 k), (20, i64 i), (6, .own (i + 90000) 0 (rowP r j).length), (24, .sl false (ints r)), (25, i64 L), (26, i64 j)]
          ([(1001, { sz := 4, rows := [[i64 0, i64 0, .sl true [], .sl true []]], flat := false }), (102006, { sz := 1, rows := bos F }), (2008, { sz := 4, rows := [[i64 L, i64 st, .own 102006 0 F.length, .own 80002 0 i]], flat := false }), (80002, { sz := 1, rows := ownRowsV i (rowLen N), flat := false }), (i + 90000, { sz := 2, rows := mvs (rowP r j) })] ++ fam i (rowObj N)))
        (fun j => j ≤ L) (fun j => L - j) 0 (Nat.zero_le _) (mkS_le rfl ?_ ?_) ?_
      · simp (maxSteps := 4000000) only [↓reduceIte, Nat.reduceLT, Nat.reduceEqDiff, reduceCtorEq, Nat.reduceAdd, Nat.reduceMul, Int.reduceLE, Int.reduceLT, Int.reduceToNat, Nat.reduceLeDiff, Nat.reduceSub, Int.reduceEq, Nat.reduceBEq, List.replicate, List.set, if_false, if_true, ne_eq, false_implies, implies_true, evA, rowP, List.length_nil]
        try rfl
      · simp (maxSteps := 4000000) only [↓reduceIte, Nat.reduceLT, Nat.reduceEqDiff, reduceCtorEq, Nat.reduceAdd, Nat.reduceMul, Int.reduceLE, Int.reduceLT, Int.reduceToNat, Nat.reduceLeDiff, Nat.reduceSub, Int.reduceEq, Nat.reduceBEq, List.replicate, List.set, if_false, if_true, ne_eq, false_implies, implies_true, evA, knowsH_app, knowsH_fam, rowP, mvs, ownRowsV_killN, h12]
        try refine ⟨rfl, rfl, ?_⟩
        intro r hr
        rw [if_neg (by omega), if_neg (by omega), if_neg (by omega), lk_fam hr]
        rfl
      · intro j hj
        have hpl := rowP_len r j
        have hst : rowP r (j + 1) = rowP r j ++ (if 0 ≤ r.getD j 0 then [((j : Int), r.getD j 0)] else []) := rfl
        by_cases hjlt : j < L
        · have d2 : decide ((j : Int) < (L : Int)) = true := by simpa using hjlt
          have hwj : IntKind.i64.wrap ((j : Int) + 1) = ((j + 1 : Nat) : Int) := i64_in (by omega) (by omega)
          have hgr := ints_get (l := r) (i := j) (by omega)
          generalize r.getD j 0 = x at *
          by_cases hx : 0 ≤ x
          · have e1 : decide (x ≥ 0) = true := by simpa using hx
            rw [if_pos hx] at hst
            generalize rowP r j = p at *
            have hpt : List.take p.length p = p := List.take_of_length_le (Nat.le_refl _)
            have hr2 : ∀ a b : Int, (∀ row ∈ [[D.v (Value.int IntKind.i64 a), D.v (Value.int IntKind.i64 b)]], row.length = 2) = True := fun a b => by simp
            have hsn := mvs_snoc p (j : Int) x
            (repeat (first | refine awp_seq ?_ | refine awp_block ?_ | ((first | refine awp_skip ?_ | refine awp_exit ?_ | refine awp_reg ttok ?_ | (refine awp_draw ttok ?dr_calm ?_; (case dr_calm => decide +kernel)) | refine awp_condM ?_); simp (maxSteps := 4000000) only [↓reduceIte, Nat.reduceLT, Nat.reduceEqDiff, reduceCtorEq, Nat.reduceAdd, Nat.reduceMul, Int.reduceLE, Int.reduceLT, Int.reduceToNat, Nat.reduceLeDiff, Nat.reduceSub, Int.reduceEq, Nat.reduceBEq, List.replicate, List.set, if_false, if_true, ne_eq, false_implies, implies_true, evA, tyA, d2, hgr, ints_len, hrw, e1, hwj, mvs_len, mvs_take, hpt, hr2, hsn, h12]; (repeat (with_reducible refine And.intro ?_ ?_; focus ((repeat' with_reducible apply And.intro) <;> (first | omega | with_reducible trivial | with_reducible assumption)))); (with_reducible first | refine awp_id ?_ | refine id_call ?_ | refine id_and ?_ | refine id_ex ?_ | refine id_all ?_ | refine id_nat ?_ | refine id_le ?_))))
            refine ⟨j + 1, by omega, by omega, mkS_le rfl ?_ ?_⟩
            · simp (maxSteps := 4000000) only [↓reduceIte, Nat.reduceLT, Nat.reduceEqDiff, reduceCtorEq, Nat.reduceAdd, Nat.reduceMul, Int.reduceLE, Int.reduceLT, Int.reduceToNat, Nat.reduceLeDiff, Nat.reduceSub, Int.reduceEq, Nat.reduceBEq, List.replicate, List.set, if_false, if_true, ne_eq, false_implies, implies_true, evA, hst, List.length_append]
              try rfl
            · simp (maxSteps := 4000000) only [↓reduceIte, Nat.reduceLT, Nat.reduceEqDiff, reduceCtorEq, Nat.reduceAdd, Nat.reduceMul, Int.reduceLE, Int.reduceLT, Int.reduceToNat, Nat.reduceLeDiff, Nat.reduceSub, Int.reduceEq, Nat.reduceBEq, List.replicate, List.set, if_false, if_true, ne_eq, false_implies, implies_true, evA, knowsH_app, knowsH_fam, hst, h12, ownRowsV_kill (show decide (11004 < 90000) = true from rfl), ownRowsV_killN]
              try refine ⟨rfl, ?_⟩
              intro r hr
              rw [if_neg (by omega), if_neg (by omega), if_neg (by omega), if_neg (by omega), lk_fam hr]
              rfl
          · have e1 : decide (x ≥ 0) = false := by simpa using hx
            rw [if_neg hx, List.append_nil] at hst
            (repeat (first | refine awp_seq ?_ | refine awp_block ?_ | ((first | refine awp_skip ?_ | refine awp_exit ?_ | refine awp_reg ttok ?_ | (refine awp_draw ttok ?dr_calm ?_; (case dr_calm => decide +kernel)) | refine awp_condM ?_); simp (maxSteps := 4000000) only [↓reduceIte, Nat.reduceLT, Nat.reduceEqDiff, reduceCtorEq, Nat.reduceAdd, Nat.reduceMul, Int.reduceLE, Int.reduceLT, Int.reduceToNat, Nat.reduceLeDiff, Nat.reduceSub, Int.reduceEq, Nat.reduceBEq, List.replicate, List.set, if_false, if_true, ne_eq, false_implies, implies_true, evA, tyA, d2, hgr, ints_len, hrw, e1, hwj]; (repeat (with_reducible refine And.intro ?_ ?_; focus ((repeat' with_reducible apply And.intro) <;> (first | omega | with_reducible trivial | with_reducible assumption)))); (with_reducible first | refine awp_id ?_ | refine id_call ?_ | refine id_and ?_ | refine id_ex ?_ | refine id_all ?_ | refine id_nat ?_ | refine id_le ?_))))
            refine ⟨j + 1, by omega, by omega, mkS_le rfl ?_ ?_⟩
            · simp (maxSteps := 4000000) only [↓reduceIte, Nat.reduceLT, Nat.reduceEqDiff, reduceCtorEq, Nat.reduceAdd, Nat.reduceMul, Int.reduceLE, Int.reduceLT, Int.reduceToNat, Nat.reduceLeDiff, Nat.reduceSub, Int.reduceEq, Nat.reduceBEq, List.replicate, List.set, if_false, if_true, ne_eq, false_implies, implies_true, evA, hst]
            · simp (maxSteps := 4000000) only [↓reduceIte, Nat.reduceLT, Nat.reduceEqDiff, reduceCtorEq, Nat.reduceAdd, Nat.reduceMul, Int.reduceLE, Int.reduceLT, Int.reduceToNat, Nat.reduceLeDiff, Nat.reduceSub, Int.reduceEq, Nat.reduceBEq, List.replicate, List.set, if_false, if_true, ne_eq, false_implies, implies_true, evA, knowsH_app, knowsH_fam, hst, h12]
              intro r hr
              rw [if_neg (by omega), if_neg (by omega), lk_fam hr]
        · have d2 : decide ((j : Int) < (L : Int)) = false := by simpa using hjlt
          obtain rfl : j = L := by omega
          have hjr : rowP r j = rowM r := by rw [hRM, hrw]
          rw [hjr]
          rw [hjr] at hpl
          have hlen : (rowM r).length = rowLen N i := hMl.symm
          have hkb : (ownRowsV i (rowLen N)).map (D.killL 50000003) = ownRowsV i (rowLen N) := ownRowsV_killB (by omega) (by decide)
          have hi9 : (i = 49910003) = False := eq_false (by omega)
          (repeat (first | refine awp_seq ?_ | refine awp_block ?_ | ((first | refine awp_skip ?_ | refine awp_exit ?_ | refine awp_reg ttok ?_ | (refine awp_draw ttok ?dr_calm ?_; (case dr_calm => decide +kernel)) | refine awp_condM ?_); simp (maxSteps := 4000000) only [↓reduceIte, Nat.reduceLT, Nat.reduceEqDiff, reduceCtorEq, Nat.reduceAdd, Nat.reduceMul, Int.reduceLE, Int.reduceLT, Int.reduceToNat, Nat.reduceLeDiff, Nat.reduceSub, Int.reduceEq, Nat.reduceBEq, List.replicate, List.set, if_false, if_true, ne_eq, false_implies, implies_true, evA, tyA, d2]; (repeat (with_reducible refine And.intro ?_ ?_; focus ((repeat' with_reducible apply And.intro) <;> (first | omega | with_reducible trivial | with_reducible assumption)))); (with_reducible first | refine awp_id ?_ | refine id_call ?_ | refine id_and ?_ | refine id_ex ?_ | refine id_all ?_ | refine id_nat ?_ | refine id_le ?_))))
          refine awp_region ttok 50000000 ?_
          simp (maxSteps := 4000000) only [↓reduceIte, Nat.reduceLT, Nat.reduceEqDiff, reduceCtorEq, Nat.reduceAdd, Nat.reduceMul, Int.reduceLE, Int.reduceLT, Int.reduceToNat, Nat.reduceLeDiff, Nat.reduceSub, Int.reduceEq, Nat.reduceBEq, List.replicate, List.set, if_false, if_true, ne_eq, false_implies, implies_true, evA, tyA, ownRowsV_len, ownRowsV_take, ownRowsV_row, ownRowsV_kill, hkb, hi9, h12]
          refine ⟨⟨by simp, by omega, by omega⟩, ?_⟩
          have hwi : IntKind.i64.wrap ((i : Int) + 1) = ((i + 1 : Nat) : Int) := i64_in (by omega) (by omega)
          (repeat (first | refine awp_seq ?_ | refine awp_block ?_ | ((first | refine awp_skip ?_ | refine awp_exit ?_ | refine awp_reg ttok ?_ | (refine awp_draw ttok ?dr_calm ?_; (case dr_calm => decide +kernel)) | refine awp_condM ?_); simp (maxSteps := 4000000) only [↓reduceIte, Nat.reduceLT, Nat.reduceEqDiff, reduceCtorEq, Nat.reduceAdd, Nat.reduceMul, Int.reduceLE, Int.reduceLT, Int.reduceToNat, Nat.reduceLeDiff, Nat.reduceSub, Int.reduceEq, Nat.reduceBEq, List.replicate, List.set, if_false, if_true, ne_eq, false_implies, implies_true, evA, tyA, hwi]; (repeat (with_reducible refine And.intro ?_ ?_; focus ((repeat' with_reducible apply And.intro) <;> (first | omega | with_reducible trivial | with_reducible assumption)))); (with_reducible first | refine awp_id ?_ | refine id_call ?_ | refine id_and ?_ | refine id_ex ?_ | refine id_all ?_ | refine id_nat ?_ | refine id_le ?_))))
          refine ⟨i + 1, by omega, by omega, mkS_le rfl ?_ ?_⟩
          · simp (maxSteps := 4000000) only [↓reduceIte, Nat.reduceLT, Nat.reduceEqDiff, reduceCtorEq, Nat.reduceAdd, Nat.reduceMul, Int.reduceLE, Int.reduceLT, Int.reduceToNat, Nat.reduceLeDiff, Nat.reduceSub, Int.reduceEq, Nat.reduceBEq, List.replicate, List.set, if_false, if_true, ne_eq, false_implies, implies_true, evA]
          · simp (maxSteps := 4000000) only [↓reduceIte, Nat.reduceLT, Nat.reduceEqDiff, reduceCtorEq, Nat.reduceAdd, Nat.reduceMul, Int.reduceLE, Int.reduceLT, Int.reduceToNat, Nat.reduceLeDiff, Nat.reduceSub, Int.reduceEq, Nat.reduceBEq, List.replicate, List.set, if_false, if_true, ne_eq, false_implies, implies_true, evA, knowsH_app, knowsH_fam, hlen, ownRowsV_app, h12]
            refine ⟨by rw [ownRowsV_kill (by decide)], fun r2 hr2 => ?_⟩
            by_cases e : r2 = i
            · subst e
              rw [if_neg (by omega), if_neg (by omega), if_neg (by omega), if_pos rfl, hM]; rfl
            · rw [if_neg (by omega), if_neg (by omega), if_neg (by omega), if_neg e, lk_fam (by omega)]; rfl
    · have d1 : decide ((i : Int) < (k : Int)) = false := by simpa using hlt
      obtain rfl : i = k := by omega
      obtain ⟨pp, hpe, hpp⟩ := purLL_ownV (h := lk ([(1001, { sz := 4, rows := [[i64 0, i64 0, .sl true [], .sl true []]], flat := false }), (102006, { sz := 1, rows := bos F }), (2008, { sz := 4, rows := [[i64 L, i64 st, .own 102006 0 F.length, .own 80002 0 i]], flat := false }), (80002, { sz := 1, rows := ownRowsV i (rowLen N), flat := false })] ++ fam i (rowObj N))) (len := rowLen N) (g := rowObj N) (List.range i) (fun r hr => ⟨by
          have hr' := List.mem_range.1 hr
          rw [lk_app, lk_none (by simp; omega)]
          exact lk_fam hr', rfl, mvs_len _⟩)
      have hrows : ((List.range i).map fun r => [D.sl false (rowObj N r).rows]) = mmv (movD N) := by
        apply List.ext_getElem
        · simp [mmv, movD, hl]
        · intro r h1 h2
          have : r < N.length := by simpa [mmv, movD] using h2
          simp [mmv, movD, rowObj, List.getD, this]
      refine awp_pureO 80002 (o := { sz := 1, rows := ownRowsV i (rowLen N), flat := false }) (by simp (maxSteps := 4000000) only [↓reduceIte, Nat.reduceLT, Nat.reduceEqDiff, reduceCtorEq, Nat.reduceAdd, Nat.reduceMul, Int.reduceLE, Int.reduceLT, Int.reduceToNat, Nat.reduceLeDiff, Nat.reduceSub, Int.reduceEq, Nat.reduceBEq, List.replicate, List.set, if_false, if_true, ne_eq, false_implies, implies_true, evA]) rfl hpe hpp (by simp) ?_
      simp only [hrows]
      have hcon : ∀ k, decide (k < 90000) = true → ((List.range i).map (· + 90000)).contains k = false := fun k h => map90000_has h
      have c1 := hcon 1001 rfl
      have c2 := hcon 2008 rfl
      have c3 := hcon 80002 rfl
      have c4 : ((List.range i).map (· + 90000)).contains 102006 = false := by
        simp only [List.contains_eq_mem, List.mem_map, List.mem_range, decide_eq_false_iff_not]
        rintro ⟨r, h1, q⟩; omega
      have hil : (movD N).length = i := by rw [movD_len]; exact hl
      have hit : List.take i (movD N) = movD N := List.take_of_length_le (by omega)
      have hft : List.take F.length F = F := List.take_of_length_le (Nat.le_refl _)
      refine awp_at 48 [(2, _), (3, _), (18, _), (19, _), (20, _)] [(1001, _), (2008, _), (80002, _), (102006, _)] rfl (by (first | simp (maxSteps := 4000000) only [↓reduceIte, Nat.reduceLT, Nat.reduceEqDiff, reduceCtorEq, Nat.reduceAdd, Nat.reduceMul, Int.reduceLE, Int.reduceLT, Int.reduceToNat, Nat.reduceLeDiff, Nat.reduceSub, Int.reduceEq, Nat.reduceBEq, List.replicate, List.set, if_false, if_true, ne_eq, false_implies, implies_true, evA, c1, c2, c3, c4] | skip); exact ⟨rfl, rfl, rfl, rfl, rfl⟩) (by (first | simp (maxSteps := 4000000) only [↓reduceIte, Nat.reduceLT, Nat.reduceEqDiff, reduceCtorEq, Nat.reduceAdd, Nat.reduceMul, Int.reduceLE, Int.reduceLT, Int.reduceToNat, Nat.reduceLeDiff, Nat.reduceSub, Int.reduceEq, Nat.reduceBEq, List.replicate, List.set, if_false, if_true, ne_eq, false_implies, implies_true, evA, c1, c2, c3, c4] | skip); exact ⟨rfl, rfl, rfl, rfl⟩) ?_
      refine awp_pureO 2008 (by simp (maxSteps := 4000000) only [↓reduceIte, Nat.reduceLT, Nat.reduceEqDiff, reduceCtorEq, Nat.reduceAdd, Nat.reduceMul, Int.reduceLE, Int.reduceLT, Int.reduceToNat, Nat.reduceLeDiff, Nat.reduceSub, Int.reduceEq, Nat.reduceBEq, List.replicate, List.set, if_false, if_true, ne_eq, false_implies, implies_true, evA]; rfl) rfl (by simp (maxSteps := 4000000) only [↓reduceIte, Nat.reduceLT, Nat.reduceEqDiff, reduceCtorEq, Nat.reduceAdd, Nat.reduceMul, Int.reduceLE, Int.reduceLT, Int.reduceToNat, Nat.reduceLeDiff, Nat.reduceSub, Int.reduceEq, Nat.reduceBEq, List.replicate, List.set, if_false, if_true, ne_eq, false_implies, implies_true, evA, bos_len, bos_take, mmv_len, mmv_take, hft, hil, hit]; rfl) (by simp (maxSteps := 4000000) only [↓reduceIte, Nat.reduceLT, Nat.reduceEqDiff, reduceCtorEq, Nat.reduceAdd, Nat.reduceMul, Int.reduceLE, Int.reduceLT, Int.reduceToNat, Nat.reduceLeDiff, Nat.reduceSub, Int.reduceEq, Nat.reduceBEq, List.replicate, List.set, if_false, if_true, ne_eq, false_implies, implies_true, evA, bos_len, mmv_len, hil]) (by decide) ?_
      refine awp_at 48 [(2, _), (3, _), (18, _), (19, _), (20, _)] [(1001, _), (2008, _)] rfl (by (first | simp (maxSteps := 4000000) only [↓reduceIte, Nat.reduceLT, Nat.reduceEqDiff, reduceCtorEq, Nat.reduceAdd, Nat.reduceMul, Int.reduceLE, Int.reduceLT, Int.reduceToNat, Nat.reduceLeDiff, Nat.reduceSub, Int.reduceEq, Nat.reduceBEq, List.replicate, List.set, if_false, if_true, ne_eq, false_implies, implies_true, evA] | skip); exact ⟨rfl, rfl, rfl, rfl, rfl⟩) (by (first | simp (maxSteps := 4000000) only [↓reduceIte, Nat.reduceLT, Nat.reduceEqDiff, reduceCtorEq, Nat.reduceAdd, Nat.reduceMul, Int.reduceLE, Int.reduceLT, Int.reduceToNat, Nat.reduceLeDiff, Nat.reduceSub, Int.reduceEq, Nat.reduceBEq, List.replicate, List.set, if_false, if_true, ne_eq, false_implies, implies_true, evA] | skip); exact ⟨rfl, rfl⟩) ?_
      (repeat (first | refine awp_seq ?_ | refine awp_block ?_ | ((first | refine awp_skip ?_ | refine awp_exit ?_ | refine awp_reg ttok ?_ | (refine awp_draw ttok ?dr_calm ?_; (case dr_calm => decide +kernel)) | refine awp_condM ?_); simp (maxSteps := 4000000) only [↓reduceIte, Nat.reduceLT, Nat.reduceEqDiff, reduceCtorEq, Nat.reduceAdd, Nat.reduceMul, Int.reduceLE, Int.reduceLT, Int.reduceToNat, Nat.reduceLeDiff, Nat.reduceSub, Int.reduceEq, Nat.reduceBEq, List.replicate, List.set, if_false, if_true, ne_eq, false_implies, implies_true, evA, tyA, d1]; (repeat (with_reducible refine And.intro ?_ ?_; focus ((repeat' with_reducible apply And.intro) <;> (first | omega | with_reducible trivial | with_reducible assumption)))); (with_reducible first | refine awp_id ?_ | refine id_call ?_ | refine id_and ?_ | refine id_ex ?_ | refine id_all ?_ | refine id_nat ?_ | refine id_le ?_))))
      exact awp_ret (endsV [] (.inr rfl) (by simp (maxSteps := 4000000) only [↓reduceIte, Nat.reduceLT, Nat.reduceEqDiff, reduceCtorEq, Nat.reduceAdd, Nat.reduceMul, Int.reduceLE, Int.reduceLT, Int.reduceToNat, Nat.reduceLeDiff, Nat.reduceSub, Int.reduceEq, Nat.reduceBEq, List.replicate, List.set, if_false, if_true, ne_eq, false_implies, implies_true, evA, tyA, nfaD]; rfl) trivial (by simp (maxSteps := 4000000) only [↓reduceIte, Nat.reduceLT, Nat.reduceEqDiff, reduceCtorEq, Nat.reduceAdd, Nat.reduceMul, Int.reduceLE, Int.reduceLT, Int.reduceToNat, Nat.reduceLeDiff, Nat.reduceSub, Int.reduceEq, Nat.reduceBEq, List.replicate, List.set, if_false, if_true, ne_eq, false_implies, implies_true, evA]))
end Go.Proofs.Ytbhjmioegdgpnaa
