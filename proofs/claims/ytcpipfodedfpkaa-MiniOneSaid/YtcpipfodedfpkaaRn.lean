import Derived.Test.YtcpipfodedfpkaaTy
import Derived.Test.YtcpipfodedfpkaaRm
import Derived.Test.YtcpipfodedfpkaaOl
namespace Go.Proofs.Ytcpipfodedfpkaa
open Go.Ab
set_option linter.unusedSimpArgs false
set_option linter.unusedVariables false
def bitF (f : Int) (i : Nat) : Bool := ((lowB 1 (f.fdiv (2 ^ min i IntKind.i64.bits)) : Int) == 1)
def finP (f : Int) (k i : Nat) : List Bool := (List.range k).map fun j => if j < i then bitF f j else false
theorem finP_len (f : Int) (k i : Nat) : (finP f k i).length = k := by simp [finP]
theorem finP_zero (f : Int) (k : Nat) : finP f k 0 = List.replicate k false := by
  apply List.ext_getElem <;> simp [finP]
theorem finP_all (f : Int) (k : Nat) : finP f k k = finD f k := by
  apply List.ext_getElem
  · simp [finP, finD]
  · intro i h1 h2
    have : i < k := by simpa [finP] using h1
    simp [finP, finD, bitF, this]
theorem finP_set {f : Int} {k i : Nat} (h : i < k) : (finP f k i).set i (bitF f i) = finP f k (i + 1) := by
  apply List.ext_getElem
  · simp [finP]
  · intro j h1 h2
    simp only [finP, List.getElem_set, List.getElem_map, List.getElem_range]
    split
    · rename_i e; subst e; rw [if_pos (by omega)]
    · split <;> split <;> first | rfl | omega
set_option maxRecDepth 20000 in
set_option maxHeartbeats 16000000 in
theorem c_Nfa (f : Bool) (l : List (Int × Int × Int)) (fin z0 z1 : Int) (hl : l.length ≤ 9223372036854775807) : Contract Try.prog 10 [.sl f (tri l), i64 fin, .agg [i64 z0, i64 z1]] (nfaD (labN z0) (startD z1) (finD fin (numD z1)) (movN (labN z0) (numD z1) l)) [] := by
  refine contract_of_awpV ttok (rs := [.cell 6 27]) Try.func10 rfl Try.ntmps10 (by simp) rfl fun E => ?_
  have hL := labN_le z0
  have hk := numD_le z1
  have hLe : (lowB 3 z0 : Int) = (labN z0 : Int) := rfl
  have hkw : IntKind.i64.wrap ((lowB 7 z1 : Int) + 1) = (numD z1 : Int) := by
    unfold numD at hk ⊢
    exact i64_in (by omega) (by omega)
  have hs1 := startD_lt z1
  have hsw : lowB 255 (z1.fdiv (2 ^ min 3 IntKind.i64.bits)) % numD z1 = startD z1 := rfl
  have hokm := fun n => mvN_ok (L := labN z0) hk.1 l n
  (repeat (first | refine awp_seq ?_ | refine awp_block ?_ | ((first | refine awp_skip ?_ | refine awp_exit ?_ | refine awp_reg ttok ?_ | (refine awp_draw ttok ?dr_calm ?_; (case dr_calm => decide +kernel)) | refine awp_condM ?_); simp (maxSteps := 4000000) only [↓reduceIte, Nat.reduceLT, Nat.reduceEqDiff, reduceCtorEq, Nat.reduceAdd, Nat.reduceMul, Int.reduceLE, Int.reduceLT, Int.reduceToNat, Nat.reduceLeDiff, Nat.reduceSub, Int.reduceEq, Nat.reduceBEq, evB, tyA, lowW3, lowW7, hLe, hkw]; (repeat (with_reducible refine And.intro ?_ ?_; exact sdX)); (with_reducible first | refine awp_id ?_ | refine id_call ?_ | refine id_and ?_ | refine id_ex ?_ | refine id_all ?_ | refine id_nat ?_ | refine id_le ?_))))
  obtain ⟨L, eL⟩ : ∃ L, L = labN z0 := ⟨_, rfl⟩
  obtain ⟨k, ek⟩ : ∃ k, k = numD z1 := ⟨_, rfl⟩
  rw [← eL] at hL hLe hokm ⊢
  rw [← ek] at hk hkw hs1 hsw hokm ⊢
  have zb : List.replicate k (List.map ofAtom (Value.bool false).cells.toList) = bos (List.replicate k false) := by simp only [bos, List.map_replicate]; rfl
  have zn : List.replicate k (List.map ofAtom (Value.slice none 0 0).cells.toList) = List.replicate k [D.sl true []] := rfl
  refine awp_drawS ttok (mkS 99 [(0, .sl f (tri l)), (1, i64 fin), (5, .ptr 1000 0 0), (6, .ptr 1001 0 0), (7, i64 k)]
    [(4001, { sz := 1, rows := List.replicate k [D.sl true []] }), (1000, { sz := 2, rows := [[i64 z0, i64 z1]], flat := false }), (1001, { sz := 4, rows := [[i64 L, i64 0, .own 4003 0 k, .own 4001 0 k]], flat := false }), (4003, { sz := 1, rows := bos (List.replicate k false) })]) (.nd 1 3 .lf (.nd 3 5 .lf .lf)) [((0, none) :: (2, none) :: (3, some [0]) :: (1, some []) :: (4, none) :: (5, some []) :: (6, none) :: (7, some []) :: []), ((0, none) :: (2, none) :: (1, some [2]) :: (4, none) :: (5, some [2]) :: (3, some []) :: (6, none) :: (7, some []) :: []), ((0, none) :: (2, none) :: (1, some [2]) :: (4, none) :: (3, some [4]) :: (5, some []) :: (6, none) :: (7, some []) :: [])] [0, 2, 1, 4, 3, 5, 6, 7] [0, 1, 2, 3, 4, 5, 6, 7] [0, 1, 2, 3, 4, 5, 6, 7] (by decide +kernel) ?_ (fun O hO => ?_)
  rotate_left
  · simp only [OpsAre, Nat.reduceAdd, and_true] at hO
    simp only [aopsS_cons, aopsS_nil, and_true]
    repeat' apply And.intro
    all_goals
      simp (maxSteps := 4000000) only [↓reduceIte, Nat.reduceLT, Nat.reduceEqDiff, reduceCtorEq, Nat.reduceAdd, Nat.reduceMul, Int.reduceLE, Int.reduceLT, Int.reduceToNat, Nat.reduceLeDiff, Nat.reduceSub, Int.reduceEq, Nat.reduceBEq, evB, tyA, hO, zb, zn]; (repeat (with_reducible refine And.intro ?_ ?_; exact sdX))
      refine mkS_le rfl ?_ ?_
      · exact evX
      · simp (maxSteps := 4000000) only [↓reduceIte, Nat.reduceLT, Nat.reduceEqDiff, reduceCtorEq, Nat.reduceAdd, Nat.reduceMul, Int.reduceLE, Int.reduceLT, Int.reduceToNat, Nat.reduceLeDiff, Nat.reduceSub, Int.reduceEq, Nat.reduceBEq, evB, zb, zn]
  · refine awp_unflat 4001 ?_
    refine awp_at 99 [(0, .sl f (tri l)), (1, i64 fin), (5, .ptr 1000 0 0), (6, .ptr 1001 0 0), (7, i64 k)]
      [(4001, { sz := 1, rows := List.replicate k [D.sl true []], flat := false }), (1000, { sz := 2, rows := [[i64 z0, i64 z1]], flat := false }), (1001, { sz := 4, rows := [[i64 L, i64 0, .own 4003 0 k, .own 4001 0 k]], flat := false }), (4003, { sz := 1, rows := bos (List.replicate k false) })] rfl evX evX ?_
    refine awp_fam 99 _ _ 4001 k 2 (by decide) rfl rfl rfl ?_
    (repeat (first | refine awp_seq ?_ | refine awp_block ?_ | ((first | refine awp_skip ?_ | refine awp_exit ?_ | refine awp_reg ttok ?_ | (refine awp_draw ttok ?dr_calm ?_; (case dr_calm => decide +kernel)) | refine awp_condM ?_); simp (maxSteps := 4000000) only [↓reduceIte, Nat.reduceLT, Nat.reduceEqDiff, reduceCtorEq, Nat.reduceAdd, Nat.reduceMul, Int.reduceLE, Int.reduceLT, Int.reduceToNat, Nat.reduceLeDiff, Nat.reduceSub, Int.reduceEq, Nat.reduceBEq, evB, tyA]; (repeat (with_reducible refine And.intro ?_ ?_; exact sdX)); (with_reducible first | refine awp_id ?_ | refine id_call ?_ | refine id_and ?_ | refine id_ex ?_ | refine id_all ?_ | refine id_nat ?_ | refine id_le ?_))))
    refine awp_loop (X := Nat) (fun i => mkS 99 [(0, .sl f (tri l)), (1, i64 fin), (5, .ptr 1000 0 0), (6, .ptr 1001 0 0), (7, i64 k), (8, i64 i)]
        ([(4001, { sz := 1, rows := ownRowsV k fun _ => 0, flat := false }), (1000, { sz := 2, rows := [[i64 z0, i64 z1]], flat := false }), (1001, { sz := 4, rows := [[i64 L, i64 0, .own 4003 0 k, .own 4001 0 k]], flat := false }), (4003, { sz := 1, rows := bos (finP fin k i) })] ++ fam k fun _ => { sz := 2, rows := [] }))
      (fun i => i ≤ k) (fun i => k - i) 0 (by omega) (mkS_le rfl ?_ ?_) ?_
    · simp (maxSteps := 4000000) only [↓reduceIte, Nat.reduceLT, Nat.reduceEqDiff, reduceCtorEq, Nat.reduceAdd, Nat.reduceMul, Int.reduceLE, Int.reduceLT, Int.reduceToNat, Nat.reduceLeDiff, Nat.reduceSub, Int.reduceEq, Nat.reduceBEq, evB]
      try rfl
    · simp (maxSteps := 4000000) only [↓reduceIte, Nat.reduceLT, Nat.reduceEqDiff, reduceCtorEq, Nat.reduceAdd, Nat.reduceMul, Int.reduceLE, Int.reduceLT, Int.reduceToNat, Nat.reduceLeDiff, Nat.reduceSub, Int.reduceEq, Nat.reduceBEq, evB, knowsH_app, knowsH_fam, finP_zero]
      intro r hr
      rw [lk_fam hr]
    · intro i hi
      have hfl := finP_len fin k i
      by_cases hlt : i < k
      · have d1 : decide ((i : Int) < (k : Int)) = true := by simpa using hlt
        have hw : IntKind.i64.wrap ((i : Int) + 1) = ((i + 1 : Nat) : Int) := i64_in (by omega) (by omega)
        have hu : IntKind.u64.wrap (i : Int) = (i : Int) := by
          simp only [IntKind.wrap, IntKind.bits, IntKind.signed, Bool.false_eq_true, if_false]
          first | omega | (simp; omega) | simp
        have hs := finP_set (f := fin) hlt
        have hse : (bos (finP fin k i)).set i [D.v (Value.bool (bitF fin i))] = bos (finP fin k (i + 1)) := by rw [← hs]; simp [bos]
        have hbF : ((lowB 1 (fin.fdiv (2 ^ min i IntKind.i64.bits)) : Int) == 1) = bitF fin i := rfl
        have hgF := bos_get (l := finP fin k i) (i := i) (by omega)
        (repeat (first | refine awp_seq ?_ | refine awp_block ?_ | ((first | refine awp_skip ?_ | refine awp_exit ?_ | refine awp_reg ttok ?_ | (refine awp_draw ttok ?dr_calm ?_; (case dr_calm => decide +kernel)) | refine awp_condM ?_); simp (maxSteps := 4000000) only [↓reduceIte, Nat.reduceLT, Nat.reduceEqDiff, reduceCtorEq, Nat.reduceAdd, Nat.reduceMul, Int.reduceLE, Int.reduceLT, Int.reduceToNat, Nat.reduceLeDiff, Nat.reduceSub, Int.reduceEq, Nat.reduceBEq, evB, tyA, d1, hw, hu, lowW1, bos_len, hfl, hgF, hbF, hse]; (repeat (with_reducible refine And.intro ?_ ?_; exact sdX)); (with_reducible first | refine awp_id ?_ | refine id_call ?_ | refine id_and ?_ | refine id_ex ?_ | refine id_all ?_ | refine id_nat ?_ | refine id_le ?_))))
        refine ⟨i + 1, by omega, by omega, mkS_le rfl ?_ ?_⟩
        · exact evX
        · simp (maxSteps := 4000000) only [↓reduceIte, Nat.reduceLT, Nat.reduceEqDiff, reduceCtorEq, Nat.reduceAdd, Nat.reduceMul, Int.reduceLE, Int.reduceLT, Int.reduceToNat, Nat.reduceLeDiff, Nat.reduceSub, Int.reduceEq, Nat.reduceBEq, evB, knowsH_app, knowsH_fam, hse]
          intro r hr
          rw [lk_fam hr]
      · have d1 : decide ((i : Int) < (k : Int)) = false := by simpa using hlt
        obtain rfl : i = k := by omega
        rw [finP_all]
        (repeat (first | refine awp_seq ?_ | refine awp_block ?_ | ((first | refine awp_skip ?_ | refine awp_exit ?_ | refine awp_reg ttok ?_ | (refine awp_draw ttok ?dr_calm ?_; (case dr_calm => decide +kernel)) | refine awp_condM ?_); simp (maxSteps := 4000000) only [↓reduceIte, Nat.reduceLT, Nat.reduceEqDiff, reduceCtorEq, Nat.reduceAdd, Nat.reduceMul, Int.reduceLE, Int.reduceLT, Int.reduceToNat, Nat.reduceLeDiff, Nat.reduceSub, Int.reduceEq, Nat.reduceBEq, evB, tyA, d1]; (repeat (with_reducible refine And.intro ?_ ?_; exact sdX)); (with_reducible first | refine awp_id ?_ | refine id_call ?_ | refine id_and ?_ | refine id_ex ?_ | refine id_all ?_ | refine id_nat ?_ | refine id_le ?_))))
        refine awp_loop (X := Nat) (fun n => mkS 99 [(0, .sl f (tri l)), (5, .ptr 1000 0 0), (6, .ptr 1001 0 0), (7, i64 i), (9, i64 n)]
            ([(4001, { sz := 1, rows := ownRowsV i fun r => ((mvN L i l n).getD r []).length, flat := false }), (1000, { sz := 2, rows := [[i64 z0, i64 z1]], flat := false }), (1001, { sz := 4, rows := [[i64 L, i64 0, .own 4003 0 i, .own 4001 0 i]], flat := false }), (4003, { sz := 1, rows := bos (finD fin i) })] ++ fam i fun r => { sz := 2, rows := mvs ((mvN L i l n).getD r []) }))
          (fun n => n ≤ min l.length 20) (fun n => 20 - n) 0 (Nat.zero_le _) (mkS_le rfl ?_ ?_) ?_
        · simp (maxSteps := 4000000) only [↓reduceIte, Nat.reduceLT, Nat.reduceEqDiff, reduceCtorEq, Nat.reduceAdd, Nat.reduceMul, Int.reduceLE, Int.reduceLT, Int.reduceToNat, Nat.reduceLeDiff, Nat.reduceSub, Int.reduceEq, Nat.reduceBEq, evB]
          try rfl
        · have h00 : ∀ r, (mvN L i l 0).getD r [] = [] := fun r => by
            rcases Nat.lt_or_ge r i with h | h
            · simp [mvN, List.getD, h]
            · simp [mvN, List.getD, List.getElem?_eq_none (show (List.replicate i ([] : List (Int × Int))).length ≤ r by simpa using h)]
          simp (maxSteps := 4000000) only [↓reduceIte, Nat.reduceLT, Nat.reduceEqDiff, reduceCtorEq, Nat.reduceAdd, Nat.reduceMul, Int.reduceLE, Int.reduceLT, Int.reduceToNat, Nat.reduceLeDiff, Nat.reduceSub, Int.reduceEq, Nat.reduceBEq, evB, knowsH_app, knowsH_fam, h00, mvs]
          intro r hr
          rw [lk_fam hr]
        · intro n hn
          by_cases hlt2 : n < min l.length 20
          · have e1 : decide ((n : Int) < (l.length : Int)) = true := by simp; omega
            have e2 : decide ((n : Int) < 20) = true := by simp; omega
            have hgt := tri_get (l := l) (i := n) (by omega)
            have hF : mvF i (l.getD n (0, 0, 0)) < i := Nat.mod_lt _ (by omega)
            have hT : mvT i (l.getD n (0, 0, 0)) < i := Nat.mod_lt _ (by omega)
            have hC : lowB 255 (l.getD n (0, 0, 0)).2.2 % (L + 1) < L + 1 := Nat.mod_lt _ (by omega)
            have hstep : mvN L i l (n + 1) = addM (mvN L i l n) (mvF i (l.getD n (0, 0, 0))) (mvL L (l.getD n (0, 0, 0))) (mvT i (l.getD n (0, 0, 0))) := rfl
            generalize hx : l.getD n (0, 0, 0) = x at *
            obtain ⟨x1, x2, x3⟩ := x
            obtain ⟨F, hFe⟩ : ∃ F, mvF i (x1, x2, x3) = F := ⟨_, rfl⟩
            obtain ⟨T, hTe⟩ : ∃ T, mvT i (x1, x2, x3) = T := ⟨_, rfl⟩
            obtain ⟨C, hCe⟩ : ∃ C, lowB 255 x3 % (L + 1) = C := ⟨_, rfl⟩
            rw [hFe] at hF hstep; rw [hTe] at hT hstep
            have hLe : mvL L (x1, x2, x3) = (C : Int) - 1 := by simp only [mvL, hCe]
            rw [hLe] at hstep
            have mF : lowB 255 x1 % i = F := hFe
            have mT : lowB 255 x2 % i = T := hTe
            rw [hCe] at hC
            have wF : IntKind.i64.wrap (F : Int) = (F : Int) := i64_in (by omega) (by omega)
            have wT : IntKind.i64.wrap (T : Int) = (T : Int) := i64_in (by omega) (by omega)
            have wC : IntKind.i64.wrap (C : Int) = (C : Int) := i64_in (by omega) (by omega)
            have wC2 : IntKind.i64.wrap ((C : Int) - 1) = (C : Int) - 1 := i64_in (by omega) (by omega)
            have wL : IntKind.i64.wrap ((L : Int) + 1) = ((L + 1 : Nat) : Int) := i64_in (by omega) (by omega)
            have z1' : (((i : Nat) : Int) == 0) = false := by simp; omega
            have z2' : (((L + 1 : Nat) : Int) == 0) = false := by rw [beq_eq_false_iff_ne]; omega
            have z3' : (((i : Nat) : Int) = 0) = False := eq_false (by omega)
            have z4' : (((L + 1 : Nat) : Int) = 0) = False := eq_false (by omega)
            have hg := ownRowsV_get (g := fun r => ((mvN L i l n).getD r []).length) hF
            have hw : IntKind.i64.wrap ((n : Int) + 1) = ((n + 1 : Nat) : Int) := i64_in (by omega) (by omega)
            (repeat (first | refine awp_seq ?_ | refine awp_block ?_ | ((first | refine awp_skip ?_ | refine awp_exit ?_ | refine awp_reg ttok ?_ | (refine awp_draw ttok ?dr_calm ?_; (case dr_calm => decide +kernel)) | refine awp_condM ?_); simp (maxSteps := 4000000) only [↓reduceIte, Nat.reduceLT, Nat.reduceEqDiff, reduceCtorEq, Nat.reduceAdd, Nat.reduceMul, Int.reduceLE, Int.reduceLT, Int.reduceToNat, Nat.reduceLeDiff, Nat.reduceSub, Int.reduceEq, Nat.reduceBEq, evB, tyA, e1, e2, tri_len]; (repeat (with_reducible refine And.intro ?_ ?_; exact sdX)); (with_reducible first | refine awp_id ?_ | refine id_call ?_ | refine id_and ?_ | refine id_ex ?_ | refine id_all ?_ | refine id_nat ?_ | refine id_le ?_))))
            refine awp_drawG ttok ((0, none) :: (1, none) :: (2, none) :: (3, none) :: (4, none) :: (5, none) :: (6, none) :: (7, none) :: (8, none) :: (9, none) :: (10, none) :: (11, none) :: (12, none) :: (13, none) :: (14, none) :: (15, none) :: (16, none) :: (17, none) :: []) (0 :: 1 :: 2 :: 3 :: 4 :: 5 :: 6 :: 7 :: 8 :: 9 :: 10 :: 11 :: 12 :: 13 :: 14 :: 15 :: 16 :: 17 :: []) (0 :: 1 :: 2 :: 3 :: 4 :: 5 :: 6 :: 7 :: 16 :: 8 :: 9 :: 10 :: 11 :: 12 :: 13 :: 14 :: 15 :: 17 :: []) (by decide +kernel) fun O hO => ?_; simp only [OpsAre, Nat.reduceAdd, and_true, List.toList_toArray, List.append_eq, List.cons_append, List.nil_append] at hO; simp (maxSteps := 4000000) only [↓reduceIte, Nat.reduceLT, Nat.reduceEqDiff, reduceCtorEq, Nat.reduceAdd, Nat.reduceMul, Int.reduceLE, Int.reduceLT, Int.reduceToNat, Nat.reduceLeDiff, Nat.reduceSub, Int.reduceEq, Nat.reduceBEq, evB, tyA, hO, tri_len, hgt, lowW255, tmodN, mF, mT, wF, wT, z1', z3']; (repeat (with_reducible refine And.intro ?_ ?_; exact sdX))
            have hMr := mvs_snoc ((mvN L i l n).getD F []) ((C : Int) - 1) (T : Int)
            have hMt : List.take ((mvN L i l n).getD F []).length ((mvN L i l n).getD F []) = (mvN L i l n).getD F [] := List.take_of_length_le (Nat.le_refl _)
            have hMl := mvN_rl (L := L) (k := i) l n F
            have hr2 : ∀ a b : Int, (∀ row ∈ [[D.v (Value.int IntKind.i64 a), D.v (Value.int IntKind.i64 b)]], row.length = 2) = True := fun a b => by simp
            have hst := fun m => ownRowsV_setK (n := i) (f := F) (g := fun r => ((mvN L i l n).getD r []).length) m hF
            have hkf := ownRowsV_killF (n := i) (f := F) (g := fun r => ((mvN L i l n).getD r []).length) hF
            have hk1 : (ownRowsV i fun r => ((mvN L i l n).getD r []).length).map (D.killL 13021) = ownRowsV i fun r => ((mvN L i l n).getD r []).length := ownRowsV_kill (by decide)
            refine awp_drawG ttok ((0, none) :: (1, none) :: (2, none) :: (3, none) :: (4, none) :: (5, none) :: (6, none) :: (7, none) :: (8, none) :: (9, none) :: (10, none) :: (11, none) :: (12, none) :: (13, none) :: (14, none) :: (15, none) :: (16, none) :: (17, none) :: (18, none) :: (19, none) :: (20, none) :: (21, some [0, 1, 2, 3, 4, 5, 6, 7]) :: (22, some [0, 1, 2]) :: (23, none) :: (24, some []) :: []) ([]) ([]) (by decide +kernel) fun O hO => ?_; simp only [OpsAre, Nat.reduceAdd, and_true, List.toList_toArray, List.append_eq, List.cons_append, List.nil_append] at hO; simp (maxSteps := 4000000) only [↓reduceIte, Nat.reduceLT, Nat.reduceEqDiff, reduceCtorEq, Nat.reduceAdd, Nat.reduceMul, Int.reduceLE, Int.reduceLT, Int.reduceToNat, Nat.reduceLeDiff, Nat.reduceSub, Int.reduceEq, Nat.reduceBEq, evB, tyA, hO, tri_len, hgt, lowW255, tmodN, mF, mT, hCe, wF, wT, wL, wC, wC2, z1', z2', z3', z4', ownRowsV_len, hg, lk_fam hF, mvs_len, mvs_take, hMt, hMr, hr2, hst, mvs_row, hk1, hkf]; (repeat (with_reducible refine And.intro ?_ ?_; exact sdX))
            have hag := fun r => addM_get (M := mvN L i l n) (f := F) (by rw [(hokm n).len]; exact hF) ((C : Int) - 1) (T : Int) r
            have hlen : (fun r => if r = F then ((mvN L i l n).getD F []).length + 1 else ((mvN L i l n).getD r []).length) = fun r => ((mvN L i l (n + 1)).getD r []).length := by
              funext r
              rw [hstep, hag]
              split
              · simp
              · rfl
            (repeat (first | refine awp_seq ?_ | refine awp_block ?_ | ((first | refine awp_skip ?_ | refine awp_exit ?_ | refine awp_reg ttok ?_ | (refine awp_draw ttok ?dr_calm ?_; (case dr_calm => decide +kernel)) | refine awp_condM ?_); simp (maxSteps := 4000000) only [↓reduceIte, Nat.reduceLT, Nat.reduceEqDiff, reduceCtorEq, Nat.reduceAdd, Nat.reduceMul, Int.reduceLE, Int.reduceLT, Int.reduceToNat, Nat.reduceLeDiff, Nat.reduceSub, Int.reduceEq, Nat.reduceBEq, evB, tyA, hw, hlen]; (repeat (with_reducible refine And.intro ?_ ?_; exact sdX)); (with_reducible first | refine awp_id ?_ | refine id_call ?_ | refine id_and ?_ | refine id_ex ?_ | refine id_all ?_ | refine id_nat ?_ | refine id_le ?_))))
            refine ⟨n + 1, by omega, by omega, mkS_le rfl ?_ ?_⟩
            · exact evX
            · simp (maxSteps := 4000000) only [↓reduceIte, Nat.reduceLT, Nat.reduceEqDiff, reduceCtorEq, Nat.reduceAdd, Nat.reduceMul, Int.reduceLE, Int.reduceLT, Int.reduceToNat, Nat.reduceLeDiff, Nat.reduceSub, Int.reduceEq, Nat.reduceBEq, evB, knowsH_app, knowsH_fam, hlen]
              intro r hr
              rw [hstep, hag]
              by_cases hrF : r = F
              · rw [if_pos hrF, if_pos hrF]
              · rw [if_neg hrF, if_neg hrF, if_neg hrF, lk_fam hr]; rfl
          · obtain rfl : n = min l.length 20 := by omega
            have hfin : mvN L i l (min l.length 20) = movN L i l := rfl
            obtain ⟨n, hn0⟩ : ∃ n, n = min l.length 20 := ⟨_, rfl⟩
            rw [← hn0] at hfin ⊢
            have hcases : decide ((n : Int) < (l.length : Int)) = false ∨ (decide ((n : Int) < (l.length : Int)) = true ∧ decide ((n : Int) < 20) = false) := by
              simp only [decide_eq_false_iff_not, decide_eq_true_eq]
              omega
            rw [hfin]
            have hokN := movN_ok (L := L) hk.1 l
            generalize movN L i l = M at *
            obtain ⟨pp, hpe, hpp⟩ := purLL_ownV (h := lk ([(4001, { sz := 1, rows := ownRowsV i fun r => (M.getD r []).length, flat := false }), (1000, { sz := 2, rows := [[i64 z0, i64 z1]], flat := false }), (1001, { sz := 4, rows := [[i64 L, i64 0, .own 4003 0 i, .own 4001 0 i]], flat := false }), (4003, { sz := 1, rows := bos (finD fin i) })] ++ fam i fun r => { sz := 2, rows := mvs (M.getD r []) })) (len := fun r => (M.getD r []).length) (g := fun r => { sz := 2, rows := mvs (M.getD r []) }) (List.range i) (fun r hr => ⟨by
                have hr' := List.mem_range.1 hr
                rw [lk_app, lk_none (by simp)]
                exact lk_fam hr', rfl, mvs_len _⟩)
            have hrows : ((List.range i).map fun r => [D.sl false (mvs (M.getD r []))]) = mmv M := by
              apply List.ext_getElem
              · simp [mmv, hokN.len]
              · intro r h1 h2
                have : r < M.length := by simpa [mmv] using h2
                simp [mmv, List.getD, this]
            refine awp_pureO 4001 (o := { sz := 1, rows := ownRowsV i fun r => (M.getD r []).length, flat := false }) evX rfl hpe hpp (by simp) ?_
            simp only [hrows]
            have hcon : ∀ k, decide (k < 90000) = true → ((List.range i).map (· + 90000)).contains k = false := fun k h => map90000_has h
            have c1 := hcon 1000 rfl
            have c2 := hcon 1001 rfl
            have c3 := hcon 4001 rfl
            have c4 := hcon 4003 rfl
            have hfl2 := finD_len fin i
            have hft : List.take i (finD fin i) = finD fin i := List.take_of_length_le (by omega)
            have hil := hokN.len
            have hit : List.take i M = M := List.take_of_length_le (by omega)
            refine awp_at 99 [(0, _), (5, _), (6, _), (7, _), (9, _)] [(1000, _), (1001, _), (4001, _), (4003, _)] rfl (by (first | simp (maxSteps := 4000000) only [↓reduceIte, Nat.reduceLT, Nat.reduceEqDiff, reduceCtorEq, Nat.reduceAdd, Nat.reduceMul, Int.reduceLE, Int.reduceLT, Int.reduceToNat, Nat.reduceLeDiff, Nat.reduceSub, Int.reduceEq, Nat.reduceBEq, evB, c1, c2, c3, c4] | skip); exact ⟨rfl, rfl, rfl, rfl, rfl⟩) (by (first | simp (maxSteps := 4000000) only [↓reduceIte, Nat.reduceLT, Nat.reduceEqDiff, reduceCtorEq, Nat.reduceAdd, Nat.reduceMul, Int.reduceLE, Int.reduceLT, Int.reduceToNat, Nat.reduceLeDiff, Nat.reduceSub, Int.reduceEq, Nat.reduceBEq, evB, c1, c2, c3, c4] | skip); exact ⟨rfl, rfl, rfl, rfl⟩) ?_
            refine awp_pureO 1001 (by simp (maxSteps := 4000000) only [↓reduceIte, Nat.reduceLT, Nat.reduceEqDiff, reduceCtorEq, Nat.reduceAdd, Nat.reduceMul, Int.reduceLE, Int.reduceLT, Int.reduceToNat, Nat.reduceLeDiff, Nat.reduceSub, Int.reduceEq, Nat.reduceBEq, evB]; rfl) rfl (by simp (maxSteps := 4000000) only [↓reduceIte, Nat.reduceLT, Nat.reduceEqDiff, reduceCtorEq, Nat.reduceAdd, Nat.reduceMul, Int.reduceLE, Int.reduceLT, Int.reduceToNat, Nat.reduceLeDiff, Nat.reduceSub, Int.reduceEq, Nat.reduceBEq, evB, bos_len, bos_take, mmv_len, mmv_take, hfl2, hft, hil, hit]; rfl) (by simp (maxSteps := 4000000) only [↓reduceIte, Nat.reduceLT, Nat.reduceEqDiff, reduceCtorEq, Nat.reduceAdd, Nat.reduceMul, Int.reduceLE, Int.reduceLT, Int.reduceToNat, Nat.reduceLeDiff, Nat.reduceSub, Int.reduceEq, Nat.reduceBEq, evB, bos_len, mmv_len, hfl2, hil]) (by decide) ?_
            refine awp_at 99 [(0, _), (5, _), (6, _), (7, _), (9, _)] [(1000, _), (1001, _)] rfl (by (first | simp (maxSteps := 4000000) only [↓reduceIte, Nat.reduceLT, Nat.reduceEqDiff, reduceCtorEq, Nat.reduceAdd, Nat.reduceMul, Int.reduceLE, Int.reduceLT, Int.reduceToNat, Nat.reduceLeDiff, Nat.reduceSub, Int.reduceEq, Nat.reduceBEq, evB] | skip); exact ⟨rfl, rfl, rfl, rfl, rfl⟩) (by (first | simp (maxSteps := 4000000) only [↓reduceIte, Nat.reduceLT, Nat.reduceEqDiff, reduceCtorEq, Nat.reduceAdd, Nat.reduceMul, Int.reduceLE, Int.reduceLT, Int.reduceToNat, Nat.reduceLeDiff, Nat.reduceSub, Int.reduceEq, Nat.reduceBEq, evB] | skip); exact ⟨rfl, rfl⟩) ?_
            have wS : IntKind.i64.wrap ((startD z1 : Nat) : Int) = ((startD z1 : Nat) : Int) := i64_in (by omega) (by omega)
            have z3' : (((i : Nat) : Int) = 0) = False := eq_false (by omega)
            have z1' : (((i : Nat) : Int) == 0) = false := by simp; omega
            rcases hcases with q | ⟨q1, q2⟩
            · (repeat (first | refine awp_seq ?_ | refine awp_block ?_ | ((first | refine awp_skip ?_ | refine awp_exit ?_ | refine awp_reg ttok ?_ | (refine awp_draw ttok ?dr_calm ?_; (case dr_calm => decide +kernel)) | refine awp_condM ?_); simp (maxSteps := 4000000) only [↓reduceIte, Nat.reduceLT, Nat.reduceEqDiff, reduceCtorEq, Nat.reduceAdd, Nat.reduceMul, Int.reduceLE, Int.reduceLT, Int.reduceToNat, Nat.reduceLeDiff, Nat.reduceSub, Int.reduceEq, Nat.reduceBEq, evB, tyA, q, tri_len, lowW255, tmodN, hsw, wS, z1', z3']; (repeat (with_reducible refine And.intro ?_ ?_; exact sdX)); (with_reducible first | refine awp_id ?_ | refine id_call ?_ | refine id_and ?_ | refine id_ex ?_ | refine id_all ?_ | refine id_nat ?_ | refine id_le ?_))))
              exact awp_ret (endsV [] (.inr rfl) (by simp (maxSteps := 4000000) only [↓reduceIte, Nat.reduceLT, Nat.reduceEqDiff, reduceCtorEq, Nat.reduceAdd, Nat.reduceMul, Int.reduceLE, Int.reduceLT, Int.reduceToNat, Nat.reduceLeDiff, Nat.reduceSub, Int.reduceEq, Nat.reduceBEq, evB, tyA, nfaD]; rfl) trivial evX)
            · (repeat (first | refine awp_seq ?_ | refine awp_block ?_ | ((first | refine awp_skip ?_ | refine awp_exit ?_ | refine awp_reg ttok ?_ | (refine awp_draw ttok ?dr_calm ?_; (case dr_calm => decide +kernel)) | refine awp_condM ?_); simp (maxSteps := 4000000) only [↓reduceIte, Nat.reduceLT, Nat.reduceEqDiff, reduceCtorEq, Nat.reduceAdd, Nat.reduceMul, Int.reduceLE, Int.reduceLT, Int.reduceToNat, Nat.reduceLeDiff, Nat.reduceSub, Int.reduceEq, Nat.reduceBEq, evB, tyA, q1, q2, tri_len, lowW255, tmodN, hsw, wS, z1', z3']; (repeat (with_reducible refine And.intro ?_ ?_; exact sdX)); (with_reducible first | refine awp_id ?_ | refine id_call ?_ | refine id_and ?_ | refine id_ex ?_ | refine id_all ?_ | refine id_nat ?_ | refine id_le ?_))))
              exact awp_ret (endsV [] (.inr rfl) (by simp (maxSteps := 4000000) only [↓reduceIte, Nat.reduceLT, Nat.reduceEqDiff, reduceCtorEq, Nat.reduceAdd, Nat.reduceMul, Int.reduceLE, Int.reduceLT, Int.reduceToNat, Nat.reduceLeDiff, Nat.reduceSub, Int.reduceEq, Nat.reduceBEq, evB, tyA, nfaD]; rfl) trivial evX)
end Go.Proofs.Ytcpipfodedfpkaa
