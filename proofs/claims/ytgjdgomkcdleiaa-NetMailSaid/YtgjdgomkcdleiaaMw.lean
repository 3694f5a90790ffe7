import Derived.Test.YtgjdgomkcdleiaaFam
import Derived.Test.YtgjdgomkcdleiaaAbL
namespace Go.Proofs.Ytgjdgomkcdleiaa
open Go.Ab
set_option linter.unusedSimpArgs false
set_option linter.unusedVariables false
def nmR : Nat → List (List D)
  | 0 => [[i64 0, i64 0, .sl true [], .sl true []], [i64 0, i64 0, .sl true [], .sl true []], [i64 0, i64 0, .sl true [], .sl true []]]
  | 1 => [[i64 0, i64 4, .own 9100 0 3, .own 9200 0 3], [i64 0, i64 0, .sl true [], .sl true []], [i64 0, i64 0, .sl true [], .sl true []]]
  | 2 => [[i64 0, i64 4, .own 9100 0 3, .own 9200 0 3], [i64 0, i64 5, .own 9101 0 3, .own 9201 0 3], [i64 0, i64 0, .sl true [], .sl true []]]
  | _ => [[i64 0, i64 4, .own 9100 0 3, .own 9200 0 3], [i64 0, i64 5, .own 9101 0 3, .own 9201 0 3], [i64 0, i64 6, .own 9102 0 3, .own 9202 0 3]]
def nmH : Nat → List (Nat × AObj)
  | 0 => []
  | 1 => [(9100, { sz := 2, rows := [[i64 0, .sl true []], [i64 0, .sl true []], [i64 0, .sl true []]] }), (9200, { sz := 1, rows := ints [0, 0, 0] })]
  | 2 => [(9100, { sz := 2, rows := [[i64 0, .sl true []], [i64 0, .sl true []], [i64 0, .sl true []]] }), (9200, { sz := 1, rows := ints [0, 0, 0] }), (9101, { sz := 2, rows := [[i64 0, .sl true []], [i64 0, .sl true []], [i64 0, .sl true []]] }), (9201, { sz := 1, rows := ints [0, 0, 0] })]
  | _ => [(9100, { sz := 2, rows := [[i64 0, .sl true []], [i64 0, .sl true []], [i64 0, .sl true []]] }), (9200, { sz := 1, rows := ints [0, 0, 0] }), (9101, { sz := 2, rows := [[i64 0, .sl true []], [i64 0, .sl true []], [i64 0, .sl true []]] }), (9201, { sz := 1, rows := ints [0, 0, 0] }), (9102, { sz := 2, rows := [[i64 0, .sl true []], [i64 0, .sl true []], [i64 0, .sl true []]] }), (9202, { sz := 1, rows := ints [0, 0, 0] })]
set_option maxRecDepth 20000 in
set_option maxHeartbeats 64000000 in
theorem c_NetMail (f g : Bool) (sd : List (Int × Int × Int)) (tk : List Int) (rm : Int) (hsd : sd.length ≤ 9223372036854775807) (htk : tk.length ≤ 9223372036854775807) :
    Contract Try.prog 3 [.sl f (tri sd), .sl g (ints tk), i64 rm] (bo true) [] := by
  refine contract_of_awp (rs := [6]) Try.func3 rfl Try.ntmps3 (by simp) rfl fun E => ?_
  (repeat (first | refine awp_seq ?_ | refine awp_block ?_ | ((first | refine awp_skip ?_ | refine awp_exit ?_ | refine awp_reg ttok ?_ | (refine awp_draw ttok ?dr_calm ?_; (case dr_calm => decide +kernel)) | refine awp_condM ?_); simp (maxSteps := 4000000) only [↓reduceIte, Nat.reduceLT, Nat.reduceEqDiff, reduceCtorEq, Nat.reduceAdd, Nat.reduceMul, Int.reduceLE, Int.reduceLT, Int.reduceToNat, Nat.reduceLeDiff, Nat.reduceSub, Int.reduceEq, Nat.reduceBEq, evB, tyA]; (repeat (with_reducible refine And.intro ?_ ?_; exact sdX)); (with_reducible first | refine awp_id ?_ | refine id_call ?_ | refine id_and ?_ | refine id_ex ?_ | refine id_all ?_ | refine id_nat ?_ | refine id_le ?_))))
  refine awp_unflat 2000 ?_
  refine awp_loop (X := Nat) (fun i => mkS 292 [(0, .sl f (tri sd)), (1, .sl g (ints tk)), (2, i64 rm), (7, .own 2000 0 3), (8, i64 i)] ([(2000, { sz := 4, rows := nmR i, flat := false })] ++ nmH i)) (fun i => i ≤ 3) (fun i => 3 - i) 0 (Nat.zero_le _) (mkS_le rfl ?_ ?_) ?_
  · simp (maxSteps := 4000000) only [↓reduceIte, Nat.reduceLT, Nat.reduceEqDiff, reduceCtorEq, Nat.reduceAdd, Nat.reduceMul, Int.reduceLE, Int.reduceLT, Int.reduceToNat, Nat.reduceLeDiff, Nat.reduceSub, Int.reduceEq, Nat.reduceBEq, evB]
    try rfl
  · simp (maxSteps := 4000000) only [↓reduceIte, Nat.reduceLT, Nat.reduceEqDiff, reduceCtorEq, Nat.reduceAdd, Nat.reduceMul, Int.reduceLE, Int.reduceLT, Int.reduceToNat, Nat.reduceLeDiff, Nat.reduceSub, Int.reduceEq, Nat.reduceBEq, evB, nmR, nmH]
    try rfl
  · intro i hi
    match i, hi with
    | 0, _ =>
      have d1 : decide (((0 : Nat) : Int) < 3) = true := rfl
      have hw : IntKind.i64.wrap (((0 : Nat) : Int) + 1) = ((1 : Nat) : Int) := rfl
      have hw4 : IntKind.i64.wrap (((0 : Nat) : Int) + 4) = 4 := rfl
      have e1 : nmR 0 = [[i64 0, i64 0, .sl true [], .sl true []], [i64 0, i64 0, .sl true [], .sl true []], [i64 0, i64 0, .sl true [], .sl true []]] := rfl
      have e2 : nmH 0 = [] := rfl
      have z1 : List.replicate 3 (List.map ofAtom (Value.int IntKind.i64 0).cells.toList) = ints [0, 0, 0] := rfl
      have z3 : [List.map ofAtom (Value.int IntKind.i64 0).cells.toList, List.map ofAtom (Value.int IntKind.i64 0).cells.toList, List.map ofAtom (Value.int IntKind.i64 0).cells.toList] = ints [0, 0, 0] := rfl
      have z2 : [[D.v (Value.int IntKind.i64 0)], [D.v (Value.int IntKind.i64 0)], [D.v (Value.int IntKind.i64 0)]] = ints [0, 0, 0] := rfl
      (repeat (first | refine awp_seq ?_ | refine awp_block ?_ | ((first | refine awp_skip ?_ | refine awp_exit ?_ | refine awp_reg ttok ?_ | (refine awp_draw ttok ?dr_calm ?_; (case dr_calm => decide +kernel)) | refine awp_condM ?_); simp (maxSteps := 4000000) only [↓reduceIte, Nat.reduceLT, Nat.reduceEqDiff, reduceCtorEq, Nat.reduceAdd, Nat.reduceMul, Int.reduceLE, Int.reduceLT, Int.reduceToNat, Nat.reduceLeDiff, Nat.reduceSub, Int.reduceEq, Nat.reduceBEq, evB, tyA, d1, e1, e2, List.cons_append, List.nil_append]; (repeat (with_reducible refine And.intro ?_ ?_; exact sdX)); (with_reducible first | refine awp_id ?_ | refine id_call ?_ | refine id_and ?_ | refine id_ex ?_ | refine id_all ?_ | refine id_nat ?_ | refine id_le ?_))))
      refine awp_drawS ttok (mkS 292 [(0, .sl f (tri sd)), (1, .sl g (ints tk)), (2, i64 rm), (7, .own 2000 0 3), (8, i64 ((0 : Nat) : Int))] [(2000, { sz := 4, rows := [[i64 0, i64 4, .own 6004 0 3, .own 6005 0 3], [i64 0, i64 0, .sl true [], .sl true []], [i64 0, i64 0, .sl true [], .sl true []]], flat := false }), (6004, { sz := 2, rows := [[i64 0, .sl true []], [i64 0, .sl true []], [i64 0, .sl true []]] }), (6005, { sz := 1, rows := ints [0, 0, 0] })]) (.nd 4 5 .lf .lf) [((0, none) :: (1, none) :: (2, none) :: (3, none) :: (5, some [0, 1, 2, 3]) :: (4, some [0, 1, 2, 3]) :: (6, none) :: (7, none) :: (8, some []) :: []), ((0, none) :: (1, none) :: (2, none) :: (3, none) :: (4, some [0, 1, 2, 3]) :: (5, some [0, 1, 2, 3]) :: (6, none) :: (7, none) :: (8, some []) :: [])] [0, 1, 2, 3, 4, 5, 6, 7, 8] [] [] (by decide +kernel) ?_ (fun O hO => ?_)
      rotate_left
      · simp only [OpsAre, Nat.reduceAdd, and_true] at hO
        simp only [aopsS_cons, aopsS_nil, and_true]
        repeat' apply And.intro
        all_goals
          simp (maxSteps := 4000000) only [↓reduceIte, Nat.reduceLT, Nat.reduceEqDiff, reduceCtorEq, Nat.reduceAdd, Nat.reduceMul, Int.reduceLE, Int.reduceLT, Int.reduceToNat, Nat.reduceLeDiff, Nat.reduceSub, Int.reduceEq, Nat.reduceBEq, evB, tyA, hO, hw4, e1, e2, z1, z2, z3, List.cons_append, List.nil_append, List.getD_cons_zero, List.getD_cons_succ, List.length_cons, List.length_nil, Nat.reduceAdd, List.set_cons_zero, List.set_cons_succ]; (repeat (with_reducible refine And.intro ?_ ?_; exact sdX))
          refine mkS_le rfl ?_ ?_
          · exact evX
          · simp (maxSteps := 4000000) only [↓reduceIte, Nat.reduceLT, Nat.reduceEqDiff, reduceCtorEq, Nat.reduceAdd, Nat.reduceMul, Int.reduceLE, Int.reduceLT, Int.reduceToNat, Nat.reduceLeDiff, Nat.reduceSub, Int.reduceEq, Nat.reduceBEq, evB, z1, z2, z3]
            try exact ⟨rfl, rfl, rfl⟩
      refine awp_swap 6004 9100 ?_
      refine awp_swap 6005 9200 ?_
      (repeat (first | refine awp_seq ?_ | refine awp_block ?_ | ((first | refine awp_skip ?_ | refine awp_exit ?_ | refine awp_reg ttok ?_ | (refine awp_draw ttok ?dr_calm ?_; (case dr_calm => decide +kernel)) | refine awp_condM ?_); simp (maxSteps := 4000000) only [↓reduceIte, Nat.reduceLT, Nat.reduceEqDiff, reduceCtorEq, Nat.reduceAdd, Nat.reduceMul, Int.reduceLE, Int.reduceLT, Int.reduceToNat, Nat.reduceLeDiff, Nat.reduceSub, Int.reduceEq, Nat.reduceBEq, evB, tyA, hw]; (repeat (with_reducible refine And.intro ?_ ?_; exact sdX)); (with_reducible first | refine awp_id ?_ | refine id_call ?_ | refine id_and ?_ | refine id_ex ?_ | refine id_all ?_ | refine id_nat ?_ | refine id_le ?_))))
      refine ⟨1, by omega, by omega, mkS_le rfl ?_ ?_⟩
      · exact evX
      · simp (maxSteps := 4000000) only [↓reduceIte, Nat.reduceLT, Nat.reduceEqDiff, reduceCtorEq, Nat.reduceAdd, Nat.reduceMul, Int.reduceLE, Int.reduceLT, Int.reduceToNat, Nat.reduceLeDiff, Nat.reduceSub, Int.reduceEq, Nat.reduceBEq, evB, nmR, nmH, List.cons_append, List.nil_append]
        try rfl
    | 1, _ =>
      have d1 : decide (((1 : Nat) : Int) < 3) = true := rfl
      have hw : IntKind.i64.wrap (((1 : Nat) : Int) + 1) = ((2 : Nat) : Int) := rfl
      have hw4 : IntKind.i64.wrap (((1 : Nat) : Int) + 4) = 5 := rfl
      have e1 : nmR 1 = [[i64 0, i64 4, .own 9100 0 3, .own 9200 0 3], [i64 0, i64 0, .sl true [], .sl true []], [i64 0, i64 0, .sl true [], .sl true []]] := rfl
      have e2 : nmH 1 = [(9100, { sz := 2, rows := [[i64 0, .sl true []], [i64 0, .sl true []], [i64 0, .sl true []]] }), (9200, { sz := 1, rows := ints [0, 0, 0] })] := rfl
      have z1 : List.replicate 3 (List.map ofAtom (Value.int IntKind.i64 0).cells.toList) = ints [0, 0, 0] := rfl
      have z3 : [List.map ofAtom (Value.int IntKind.i64 0).cells.toList, List.map ofAtom (Value.int IntKind.i64 0).cells.toList, List.map ofAtom (Value.int IntKind.i64 0).cells.toList] = ints [0, 0, 0] := rfl
      have z2 : [[D.v (Value.int IntKind.i64 0)], [D.v (Value.int IntKind.i64 0)], [D.v (Value.int IntKind.i64 0)]] = ints [0, 0, 0] := rfl
      (repeat (first | refine awp_seq ?_ | refine awp_block ?_ | ((first | refine awp_skip ?_ | refine awp_exit ?_ | refine awp_reg ttok ?_ | (refine awp_draw ttok ?dr_calm ?_; (case dr_calm => decide +kernel)) | refine awp_condM ?_); simp (maxSteps := 4000000) only [↓reduceIte, Nat.reduceLT, Nat.reduceEqDiff, reduceCtorEq, Nat.reduceAdd, Nat.reduceMul, Int.reduceLE, Int.reduceLT, Int.reduceToNat, Nat.reduceLeDiff, Nat.reduceSub, Int.reduceEq, Nat.reduceBEq, evB, tyA, d1, e1, e2, List.cons_append, List.nil_append]; (repeat (with_reducible refine And.intro ?_ ?_; exact sdX)); (with_reducible first | refine awp_id ?_ | refine id_call ?_ | refine id_and ?_ | refine id_ex ?_ | refine id_all ?_ | refine id_nat ?_ | refine id_le ?_))))
      refine awp_drawS ttok (mkS 292 [(0, .sl f (tri sd)), (1, .sl g (ints tk)), (2, i64 rm), (7, .own 2000 0 3), (8, i64 ((1 : Nat) : Int))] [(2000, { sz := 4, rows := [[i64 0, i64 4, .own 9100 0 3, .own 9200 0 3], [i64 0, i64 5, .own 6004 0 3, .own 6005 0 3], [i64 0, i64 0, .sl true [], .sl true []]], flat := false }), (6004, { sz := 2, rows := [[i64 0, .sl true []], [i64 0, .sl true []], [i64 0, .sl true []]] }), (6005, { sz := 1, rows := ints [0, 0, 0] }), (9100, { sz := 2, rows := [[i64 0, .sl true []], [i64 0, .sl true []], [i64 0, .sl true []]] }), (9200, { sz := 1, rows := ints [0, 0, 0] })]) (.nd 4 5 .lf .lf) [((0, none) :: (1, none) :: (2, none) :: (3, none) :: (5, some [0, 1, 2, 3]) :: (4, some [0, 1, 2, 3]) :: (6, none) :: (7, none) :: (8, some []) :: []), ((0, none) :: (1, none) :: (2, none) :: (3, none) :: (4, some [0, 1, 2, 3]) :: (5, some [0, 1, 2, 3]) :: (6, none) :: (7, none) :: (8, some []) :: [])] [0, 1, 2, 3, 4, 5, 6, 7, 8] [] [] (by decide +kernel) ?_ (fun O hO => ?_)
      rotate_left
      · simp only [OpsAre, Nat.reduceAdd, and_true] at hO
        simp only [aopsS_cons, aopsS_nil, and_true]
        repeat' apply And.intro
        all_goals
          simp (maxSteps := 4000000) only [↓reduceIte, Nat.reduceLT, Nat.reduceEqDiff, reduceCtorEq, Nat.reduceAdd, Nat.reduceMul, Int.reduceLE, Int.reduceLT, Int.reduceToNat, Nat.reduceLeDiff, Nat.reduceSub, Int.reduceEq, Nat.reduceBEq, evB, tyA, hO, hw4, e1, e2, z1, z2, z3, List.cons_append, List.nil_append, List.getD_cons_zero, List.getD_cons_succ, List.length_cons, List.length_nil, Nat.reduceAdd, List.set_cons_zero, List.set_cons_succ]; (repeat (with_reducible refine And.intro ?_ ?_; exact sdX))
          refine mkS_le rfl ?_ ?_
          · exact evX
          · simp (maxSteps := 4000000) only [↓reduceIte, Nat.reduceLT, Nat.reduceEqDiff, reduceCtorEq, Nat.reduceAdd, Nat.reduceMul, Int.reduceLE, Int.reduceLT, Int.reduceToNat, Nat.reduceLeDiff, Nat.reduceSub, Int.reduceEq, Nat.reduceBEq, evB, z1, z2, z3]
            try exact ⟨rfl, rfl, rfl⟩
      refine awp_swap 6004 9101 ?_
      refine awp_swap 6005 9201 ?_
      (repeat (first | refine awp_seq ?_ | refine awp_block ?_ | ((first | refine awp_skip ?_ | refine awp_exit ?_ | refine awp_reg ttok ?_ | (refine awp_draw ttok ?dr_calm ?_; (case dr_calm => decide +kernel)) | refine awp_condM ?_); simp (maxSteps := 4000000) only [↓reduceIte, Nat.reduceLT, Nat.reduceEqDiff, reduceCtorEq, Nat.reduceAdd, Nat.reduceMul, Int.reduceLE, Int.reduceLT, Int.reduceToNat, Nat.reduceLeDiff, Nat.reduceSub, Int.reduceEq, Nat.reduceBEq, evB, tyA, hw]; (repeat (with_reducible refine And.intro ?_ ?_; exact sdX)); (with_reducible first | refine awp_id ?_ | refine id_call ?_ | refine id_and ?_ | refine id_ex ?_ | refine id_all ?_ | refine id_nat ?_ | refine id_le ?_))))
      refine ⟨2, by omega, by omega, mkS_le rfl ?_ ?_⟩
      · exact evX
      · simp (maxSteps := 4000000) only [↓reduceIte, Nat.reduceLT, Nat.reduceEqDiff, reduceCtorEq, Nat.reduceAdd, Nat.reduceMul, Int.reduceLE, Int.reduceLT, Int.reduceToNat, Nat.reduceLeDiff, Nat.reduceSub, Int.reduceEq, Nat.reduceBEq, evB, nmR, nmH, List.cons_append, List.nil_append]
        try rfl
    | 2, _ =>
      have d1 : decide (((2 : Nat) : Int) < 3) = true := rfl
      have hw : IntKind.i64.wrap (((2 : Nat) : Int) + 1) = ((3 : Nat) : Int) := rfl
      have hw4 : IntKind.i64.wrap (((2 : Nat) : Int) + 4) = 6 := rfl
      have e1 : nmR 2 = [[i64 0, i64 4, .own 9100 0 3, .own 9200 0 3], [i64 0, i64 5, .own 9101 0 3, .own 9201 0 3], [i64 0, i64 0, .sl true [], .sl true []]] := rfl
      have e2 : nmH 2 = [(9100, { sz := 2, rows := [[i64 0, .sl true []], [i64 0, .sl true []], [i64 0, .sl true []]] }), (9200, { sz := 1, rows := ints [0, 0, 0] }), (9101, { sz := 2, rows := [[i64 0, .sl true []], [i64 0, .sl true []], [i64 0, .sl true []]] }), (9201, { sz := 1, rows := ints [0, 0, 0] })] := rfl
      have z1 : List.replicate 3 (List.map ofAtom (Value.int IntKind.i64 0).cells.toList) = ints [0, 0, 0] := rfl
      have z3 : [List.map ofAtom (Value.int IntKind.i64 0).cells.toList, List.map ofAtom (Value.int IntKind.i64 0).cells.toList, List.map ofAtom (Value.int IntKind.i64 0).cells.toList] = ints [0, 0, 0] := rfl
      have z2 : [[D.v (Value.int IntKind.i64 0)], [D.v (Value.int IntKind.i64 0)], [D.v (Value.int IntKind.i64 0)]] = ints [0, 0, 0] := rfl
      (repeat (first | refine awp_seq ?_ | refine awp_block ?_ | ((first | refine awp_skip ?_ | refine awp_exit ?_ | refine awp_reg ttok ?_ | (refine awp_draw ttok ?dr_calm ?_; (case dr_calm => decide +kernel)) | refine awp_condM ?_); simp (maxSteps := 4000000) only [↓reduceIte, Nat.reduceLT, Nat.reduceEqDiff, reduceCtorEq, Nat.reduceAdd, Nat.reduceMul, Int.reduceLE, Int.reduceLT, Int.reduceToNat, Nat.reduceLeDiff, Nat.reduceSub, Int.reduceEq, Nat.reduceBEq, evB, tyA, d1, e1, e2, List.cons_append, List.nil_append]; (repeat (with_reducible refine And.intro ?_ ?_; exact sdX)); (with_reducible first | refine awp_id ?_ | refine id_call ?_ | refine id_and ?_ | refine id_ex ?_ | refine id_all ?_ | refine id_nat ?_ | refine id_le ?_))))
      refine awp_drawS ttok (mkS 292 [(0, .sl f (tri sd)), (1, .sl g (ints tk)), (2, i64 rm), (7, .own 2000 0 3), (8, i64 ((2 : Nat) : Int))] [(2000, { sz := 4, rows := [[i64 0, i64 4, .own 9100 0 3, .own 9200 0 3], [i64 0, i64 5, .own 9101 0 3, .own 9201 0 3], [i64 0, i64 6, .own 6004 0 3, .own 6005 0 3]], flat := false }), (6004, { sz := 2, rows := [[i64 0, .sl true []], [i64 0, .sl true []], [i64 0, .sl true []]] }), (6005, { sz := 1, rows := ints [0, 0, 0] }), (9100, { sz := 2, rows := [[i64 0, .sl true []], [i64 0, .sl true []], [i64 0, .sl true []]] }), (9200, { sz := 1, rows := ints [0, 0, 0] }), (9101, { sz := 2, rows := [[i64 0, .sl true []], [i64 0, .sl true []], [i64 0, .sl true []]] }), (9201, { sz := 1, rows := ints [0, 0, 0] })]) (.nd 4 5 .lf .lf) [((0, none) :: (1, none) :: (2, none) :: (3, none) :: (5, some [0, 1, 2, 3]) :: (4, some [0, 1, 2, 3]) :: (6, none) :: (7, none) :: (8, some []) :: []), ((0, none) :: (1, none) :: (2, none) :: (3, none) :: (4, some [0, 1, 2, 3]) :: (5, some [0, 1, 2, 3]) :: (6, none) :: (7, none) :: (8, some []) :: [])] [0, 1, 2, 3, 4, 5, 6, 7, 8] [] [] (by decide +kernel) ?_ (fun O hO => ?_)
      rotate_left
      · simp only [OpsAre, Nat.reduceAdd, and_true] at hO
        simp only [aopsS_cons, aopsS_nil, and_true]
        repeat' apply And.intro
        all_goals
          simp (maxSteps := 4000000) only [↓reduceIte, Nat.reduceLT, Nat.reduceEqDiff, reduceCtorEq, Nat.reduceAdd, Nat.reduceMul, Int.reduceLE, Int.reduceLT, Int.reduceToNat, Nat.reduceLeDiff, Nat.reduceSub, Int.reduceEq, Nat.reduceBEq, evB, tyA, hO, hw4, e1, e2, z1, z2, z3, List.cons_append, List.nil_append, List.getD_cons_zero, List.getD_cons_succ, List.length_cons, List.length_nil, Nat.reduceAdd, List.set_cons_zero, List.set_cons_succ]; (repeat (with_reducible refine And.intro ?_ ?_; exact sdX))
          refine mkS_le rfl ?_ ?_
          · exact evX
          · simp (maxSteps := 4000000) only [↓reduceIte, Nat.reduceLT, Nat.reduceEqDiff, reduceCtorEq, Nat.reduceAdd, Nat.reduceMul, Int.reduceLE, Int.reduceLT, Int.reduceToNat, Nat.reduceLeDiff, Nat.reduceSub, Int.reduceEq, Nat.reduceBEq, evB, z1, z2, z3]
            try exact ⟨rfl, rfl, rfl⟩
      refine awp_swap 6004 9102 ?_
      refine awp_swap 6005 9202 ?_
      (repeat (first | refine awp_seq ?_ | refine awp_block ?_ | ((first | refine awp_skip ?_ | refine awp_exit ?_ | refine awp_reg ttok ?_ | (refine awp_draw ttok ?dr_calm ?_; (case dr_calm => decide +kernel)) | refine awp_condM ?_); simp (maxSteps := 4000000) only [↓reduceIte, Nat.reduceLT, Nat.reduceEqDiff, reduceCtorEq, Nat.reduceAdd, Nat.reduceMul, Int.reduceLE, Int.reduceLT, Int.reduceToNat, Nat.reduceLeDiff, Nat.reduceSub, Int.reduceEq, Nat.reduceBEq, evB, tyA, hw]; (repeat (with_reducible refine And.intro ?_ ?_; exact sdX)); (with_reducible first | refine awp_id ?_ | refine id_call ?_ | refine id_and ?_ | refine id_ex ?_ | refine id_all ?_ | refine id_nat ?_ | refine id_le ?_))))
      refine ⟨3, by omega, by omega, mkS_le rfl ?_ ?_⟩
      · exact evX
      · simp (maxSteps := 4000000) only [↓reduceIte, Nat.reduceLT, Nat.reduceEqDiff, reduceCtorEq, Nat.reduceAdd, Nat.reduceMul, Int.reduceLE, Int.reduceLT, Int.reduceToNat, Nat.reduceLeDiff, Nat.reduceSub, Int.reduceEq, Nat.reduceBEq, evB, nmR, nmH, List.cons_append, List.nil_append]
        try rfl
    | 3, _ =>
      have d1 : decide (((3 : Nat) : Int) < 3) = false := rfl
      have e1 : nmR 3 = [[i64 0, i64 4, .own 9100 0 3, .own 9200 0 3], [i64 0, i64 5, .own 9101 0 3, .own 9201 0 3], [i64 0, i64 6, .own 9102 0 3, .own 9202 0 3]] := rfl
      have e2 : nmH 3 = [(9100, { sz := 2, rows := [[i64 0, .sl true []], [i64 0, .sl true []], [i64 0, .sl true []]] }), (9200, { sz := 1, rows := ints [0, 0, 0] }), (9101, { sz := 2, rows := [[i64 0, .sl true []], [i64 0, .sl true []], [i64 0, .sl true []]] }), (9201, { sz := 1, rows := ints [0, 0, 0] }), (9102, { sz := 2, rows := [[i64 0, .sl true []], [i64 0, .sl true []], [i64 0, .sl true []]] }), (9202, { sz := 1, rows := ints [0, 0, 0] })] := rfl
      (repeat (first | refine awp_seq ?_ | refine awp_block ?_ | ((first | refine awp_skip ?_ | refine awp_exit ?_ | refine awp_reg ttok ?_ | (refine awp_draw ttok ?dr_calm ?_; (case dr_calm => decide +kernel)) | refine awp_condM ?_); simp (maxSteps := 4000000) only [↓reduceIte, Nat.reduceLT, Nat.reduceEqDiff, reduceCtorEq, Nat.reduceAdd, Nat.reduceMul, Int.reduceLE, Int.reduceLT, Int.reduceToNat, Nat.reduceLeDiff, Nat.reduceSub, Int.reduceEq, Nat.reduceBEq, evB, tyA, d1, e1, e2, List.cons_append, List.nil_append]; (repeat (with_reducible refine And.intro ?_ ?_; exact sdX)); (with_reducible first | refine awp_id ?_ | refine id_call ?_ | refine id_and ?_ | refine id_ex ?_ | refine id_all ?_ | refine id_nat ?_ | refine id_le ?_))))
      refine awp_looseO 9100 ?_
      refine awp_looseO 9101 ?_
      refine awp_looseO 9102 ?_
      refine awp_looseO 7000 ?_
      refine awp_at 292 [(0, .sl f (tri sd)), (1, .sl g (ints tk)), (2, i64 rm), (7, .own 2000 0 3), (9, .own 7000 0 9), (10, i64 ((0 : Nat) : Int))] [(2000, { sz := 4, rows := [[i64 0, i64 4, .own 9100 0 3, .own 9200 0 3], [i64 0, i64 5, .own 9101 0 3, .own 9201 0 3], [i64 0, i64 6, .own 9102 0 3, .own 9202 0 3]], flat := false }), (9100, { sz := 2, rows := sents (sS (fun _ => []) 0) }), (9101, { sz := 2, rows := sents (sS (fun _ => []) 1) }), (9102, { sz := 2, rows := sents (sS (fun _ => []) 2) }), (9200, { sz := 1, rows := ints (tT (fun _ => 0) 0) }), (9201, { sz := 1, rows := ints (tT (fun _ => 0) 1) }), (9202, { sz := 1, rows := ints (tT (fun _ => 0) 2) }), (7000, { sz := 1, rows := wys (fun _ => []) (fun _ => 0) })] rfl ⟨rfl, rfl, rfl, rfl, rfl, rfl, trivial⟩ ⟨rfl, rfl, rfl, rfl, rfl, rfl, rfl, rfl, trivial⟩ ?_
      clear e1 e2
      refine awp_joinX (X := HH) 2 (fun H => mkS 292 [(1, .sl g (ints tk)), (2, i64 rm), (7, .own 2000 0 3), (9, .own 7000 0 9)] [(2000, { sz := 4, rows := [[i64 0, i64 4, .own 9100 0 3, .own 9200 0 3], [i64 0, i64 5, .own 9101 0 3, .own 9201 0 3], [i64 0, i64 6, .own 9102 0 3, .own 9202 0 3]], flat := false }), (9100, { sz := 2, rows := sents (sS H 0) }), (9101, { sz := 2, rows := sents (sS H 1) }), (9102, { sz := 2, rows := sents (sS H 2) }), (9200, { sz := 1, rows := ints (tT (fun _ => 0) 0) }), (9201, { sz := 1, rows := ints (tT (fun _ => 0) 1) }), (9202, { sz := 1, rows := ints (tT (fun _ => 0) 2) }), (7000, { sz := 1, rows := wys H (fun _ => 0) })]) (fun H => ∀ j, (H j).length ≤ 20) ?_ ?_
      rotate_left
      · refine awp_loop (X := Nat × HH) (fun q => mkS 292 [(0, .sl f (tri sd)), (1, .sl g (ints tk)), (2, i64 rm), (7, .own 2000 0 3), (9, .own 7000 0 9), (10, i64 q.1)] [(2000, { sz := 4, rows := [[i64 0, i64 4, .own 9100 0 3, .own 9200 0 3], [i64 0, i64 5, .own 9101 0 3, .own 9201 0 3], [i64 0, i64 6, .own 9102 0 3, .own 9202 0 3]], flat := false }), (9100, { sz := 2, rows := sents (sS q.2 0) }), (9101, { sz := 2, rows := sents (sS q.2 1) }), (9102, { sz := 2, rows := sents (sS q.2 2) }), (9200, { sz := 1, rows := ints (tT (fun _ => 0) 0) }), (9201, { sz := 1, rows := ints (tT (fun _ => 0) 1) }), (9202, { sz := 1, rows := ints (tT (fun _ => 0) 2) }), (7000, { sz := 1, rows := wys q.2 (fun _ => 0) })]) (fun q => q.1 ≤ 20 ∧ q.1 ≤ sd.length ∧ ∀ j, (q.2 j).length ≤ q.1) (fun q => 20 - q.1) (0, fun _ => []) ⟨Nat.zero_le _, Nat.zero_le _, fun j => Nat.le_refl _⟩ (mkS_le rfl ?_ ?_) ?_
        · simp (maxSteps := 4000000) only [↓reduceIte, Nat.reduceLT, Nat.reduceEqDiff, reduceCtorEq, Nat.reduceAdd, Nat.reduceMul, Int.reduceLE, Int.reduceLT, Int.reduceToNat, Nat.reduceLeDiff, Nat.reduceSub, Int.reduceEq, Nat.reduceBEq, evB]
          try rfl
        · simp (maxSteps := 4000000) only [↓reduceIte, Nat.reduceLT, Nat.reduceEqDiff, reduceCtorEq, Nat.reduceAdd, Nat.reduceMul, Int.reduceLE, Int.reduceLT, Int.reduceToNat, Nat.reduceLeDiff, Nat.reduceSub, Int.reduceEq, Nat.reduceBEq, evB]
          try rfl
        · rintro ⟨i, H⟩ ⟨hi, his, hH⟩
          simp only at hi his hH
          by_cases hlt : i < sd.length ∧ i < 20
          · have d1 : decide ((i : Int) < (sd.length : Int)) = true := by simp; omega
            have d2 : decide ((i : Int) < 20) = true := by simp; omega
            have hwi : IntKind.i64.wrap ((i : Int) + 1) = ((i + 1 : Nat) : Int) := i64_in (by omega) (by omega)
            have gi := tri_get hlt.1
            generalize sd.getD i (0, 0, 0) = y at gi
            obtain ⟨y1, y2, y3⟩ := y
            simp only at gi
            obtain ⟨a0, ha0, haw0⟩ := and_low y1 255 (by decide)
            have haw : IntKind.i64.wrap ((BitVec.ofInt IntKind.i64.bits y1 &&& BitVec.ofInt IntKind.i64.bits 255).toNat : Int) = (a0 : Int) := haw0
            obtain ⟨b0, hb0, hbw0⟩ := and_low y2 255 (by decide)
            have hbw : IntKind.i64.wrap ((BitVec.ofInt IntKind.i64.bits y2 &&& BitVec.ofInt IntKind.i64.bits 255).toNat : Int) = (b0 : Int) := hbw0
            obtain ⟨x, hx0, hxw0⟩ := and_low y3 255 (by decide)
            have hxw : IntKind.i64.wrap ((BitVec.ofInt IntKind.i64.bits y3 &&& BitVec.ofInt IntKind.i64.bits 255).toNat : Int) = (x : Int) := hxw0
            obtain ⟨a, ha, ham⟩ : ∃ a : Nat, a < 3 ∧ (a0 : Int).tmod 3 = (a : Int) := ⟨a0 % 3, Nat.mod_lt _ (by decide), by rw [Int.tmod_eq_emod_of_nonneg (by omega)]; omega⟩
            obtain ⟨b, hb, hbm⟩ : ∃ b : Nat, b < 3 ∧ (b0 : Int).tmod 3 = (b : Int) := ⟨b0 % 3, Nat.mod_lt _ (by decide), by rw [Int.tmod_eq_emod_of_nonneg (by omega)]; omega⟩
            have hone : [[i64 (x : Int)]] = ints [(x : Int)] := rfl
            have hr1 : ∀ m : List Int, (∀ row ∈ ints m, row.length = 1) = True := fun m => by simp [ints]
            (repeat (first | refine awp_seq ?_ | refine awp_block ?_ | ((first | refine awp_skip ?_ | refine awp_exit ?_ | refine awp_reg ttok ?_ | (refine awp_draw ttok ?dr_calm ?_; (case dr_calm => decide +kernel)) | refine awp_condM ?_); simp (maxSteps := 4000000) only [↓reduceIte, Nat.reduceLT, Nat.reduceEqDiff, reduceCtorEq, Nat.reduceAdd, Nat.reduceMul, Int.reduceLE, Int.reduceLT, Int.reduceToNat, Nat.reduceLeDiff, Nat.reduceSub, Int.reduceEq, Nat.reduceBEq, evB, tyA, d1, d2, tri_len]; (repeat (with_reducible refine And.intro ?_ ?_; exact sdX)); (with_reducible first | refine awp_id ?_ | refine id_call ?_ | refine id_and ?_ | refine id_ex ?_ | refine id_all ?_ | refine id_nat ?_ | refine id_le ?_))))
            refine awp_drawG ttok ((0, none) :: (1, none) :: (2, none) :: (3, none) :: (4, none) :: (5, none) :: (6, none) :: (7, none) :: (8, none) :: (9, none) :: (10, none) :: (11, none) :: (12, none) :: (13, none) :: (14, none) :: (15, none) :: (16, none) :: (17, none) :: (18, none) :: (19, none) :: (20, none) :: (21, none) :: (22, none) :: []) (0 :: 1 :: 2 :: 3 :: 4 :: 5 :: 6 :: 7 :: 8 :: 9 :: 10 :: 11 :: 12 :: 13 :: 14 :: 15 :: 16 :: 17 :: 18 :: 19 :: 20 :: 21 :: 22 :: []) (0 :: 1 :: 2 :: 3 :: 4 :: 5 :: 6 :: 20 :: 7 :: 8 :: 9 :: 10 :: 11 :: 12 :: 13 :: 21 :: 14 :: 15 :: 16 :: 17 :: 18 :: 19 :: 22 :: []) (by decide +kernel) fun O hO => ?_; simp only [OpsAre, Nat.reduceAdd, and_true, List.toList_toArray, List.append_eq, List.cons_append, List.nil_append] at hO; simp (maxSteps := 4000000) only [↓reduceIte, Nat.reduceLT, Nat.reduceEqDiff, reduceCtorEq, Nat.reduceAdd, Nat.reduceMul, Int.reduceLE, Int.reduceLT, Int.reduceToNat, Nat.reduceLeDiff, Nat.reduceSub, Int.reduceEq, Nat.reduceBEq, evB, tyA, hO, gi, tri_len, haw, hbw, hxw, ham, hbm]; (repeat (with_reducible refine And.intro ?_ ?_; exact sdX))
            match a, ha with
            | 0, _ =>
              obtain ⟨m, hm⟩ : ∃ m, m = 3 * 0 + b := ⟨_, rfl⟩
              have hgS : (sents (sS H 0)).getD b [] = [i64 (H m).length, .sl false (ints (last8 (H m)))] := by rw [hm]; exact sents_get (sS_get hb)
              have hgS2 : ∀ (c : Int) (w : List Int), (sents ((sS H 0).set b (c, false, w))).getD b [] = [i64 c, .sl false (ints w)] := fun c w => sents_get (set_at (by rw [sS_len]; exact hb) _)
              have hst : ∀ (L : List (Int × Bool × List Int)) (c : Int) (w : List Int), List.set (sents L) b [D.v (Value.int IntKind.i64 c), D.sl false (ints w)] = sents (L.set b (c, false, w)) := fun L c w => sents_set L b c w
              have hsl := sS_len H 0
              have hsl2 : ∀ x, ((sS H 0).set b x).length = 3 := fun x => by rw [List.length_set, hsl]
              have hHm := hH m
              have hl8 := last8_len (H m)
              have hcw : IntKind.i64.wrap (((H m).length : Int) + 1) = (((H m).length + 1 : Nat) : Int) := i64_in (by omega) (by omega)
              have hA1 : (last8 (H m) ++ [(x : Int)]).length = (last8 (H m)).length + 1 := by simp
              have hA2 : List.take ((last8 (H m)).length + 1) (last8 (H m) ++ [(x : Int)]) = last8 (H m) ++ [(x : Int)] := List.take_of_length_le (by omega)
              have hA3 : List.take (last8 (H m)).length (last8 (H m)) = last8 (H m) := List.take_length
              have hsw : IntKind.i64.wrap ((((last8 (H m)).length + 1 : Nat) : Int) - 8) = ((last8 (H m)).length : Int) - 7 := by rw [i64_in (by omega) (by omega)]; omega
              have hmx : (if 0 > ((last8 (H m)).length : Int) - 7 then (0 : Int) else ((last8 (H m)).length : Int) - 7) = (((last8 (H m)).length - 7 : Nat) : Int) := by split <;> omega
              have hdr : List.drop ((last8 (H m)).length - 7) (last8 (H m) ++ [(x : Int)]) = last8 (H m ++ [(x : Int)]) := by
                rw [← last8_snoc]; unfold last8; simp only [List.length_append, List.length_cons, List.length_nil]; rfl
              have hdt : List.take ((last8 (H m)).length + 1 - ((last8 (H m)).length - 7)) (last8 (H m ++ [(x : Int)])) = last8 (H m ++ [(x : Int)]) := List.take_of_length_le (by rw [← hdr, List.length_drop, hA1]; exact Nat.le_refl _)
              have hm1 : IntKind.i64.wrap (3 * ((0 : Nat) : Int)) = 0 := rfl
              have hm2 : IntKind.i64.wrap (0 + (b : Int)) = ((m : Nat) : Int) := by rw [i64_in (by omega) (by omega)]; omega
              have hgW := wys_get (H := H) (T := fun _ => 0) (i := m) (by omega)
              have hW0 : wayP H (fun _ => 0) m = H m := rfl
              rw [hW0] at hgW
              have hB1 : (H m ++ [(x : Int)]).length = (H m).length + 1 := by simp
              have hB2 : List.take ((H m).length + 1) (H m ++ [(x : Int)]) = H m ++ [(x : Int)] := List.take_of_length_le (by omega)
              have hB3 : List.take (H m).length (H m) = H m := List.take_length
              have hws : List.set (wys H fun _ => 0) m [D.sl false (ints (H m ++ [(x : Int)]))] = wys (updH H m (H m ++ [(x : Int)])) fun _ => 0 := wys_set (by omega) (by have := wayP_send H (fun _ => 0) (i := m) (x : Int) (Nat.zero_le _); rw [this]; rfl) (fun j hj => wayP_sendO H _ _ hj)
              have hfin : (sS H 0).set b ((((H m).length + 1 : Nat) : Int), false, last8 (H m ++ [(x : Int)])) = sS (updH H m (H m ++ [(x : Int)])) 0 := by
                have := sS_upd H (a := 0) hb (H m ++ [(x : Int)])
                rw [← hm, hB1] at this
                exact this.symm
              have hoth1 := sS_other H hb (show 1 ≠ 0 by decide) (H m ++ [(x : Int)])
              rw [← hm] at hoth1
              have hoth2 := sS_other H hb (show 2 ≠ 0 by decide) (H m ++ [(x : Int)])
              rw [← hm] at hoth2
              (repeat (first | refine awp_seq ?_ | refine awp_block ?_ | ((first | refine awp_skip ?_ | refine awp_exit ?_ | refine awp_reg ttok ?_ | (refine awp_draw ttok ?dr_calm ?_; (case dr_calm => decide +kernel)) | refine awp_condM ?_); simp (maxSteps := 4000000) only [↓reduceIte, Nat.reduceLT, Nat.reduceEqDiff, reduceCtorEq, Nat.reduceAdd, Nat.reduceMul, Int.reduceLE, Int.reduceLT, Int.reduceToNat, Nat.reduceLeDiff, Nat.reduceSub, Int.reduceEq, Nat.reduceBEq, evB, tyA, List.cons_append, List.nil_append, List.getD_cons_zero, List.getD_cons_succ, List.length_cons, List.length_nil, Nat.reduceAdd, List.set_cons_zero, List.set_cons_succ, List.getD_cons_zero, sents_len, hsl, hgS, hgS2, hst, hsl2, List.set_set, hcw, ints_len, ints_take, ints_app, hone, hr1, hA1, hA2, hA3, Nat.zero_add]; (repeat (with_reducible refine And.intro ?_ ?_; exact sdX)); (with_reducible first | refine awp_id ?_ | refine id_call ?_ | refine id_and ?_ | refine id_ex ?_ | refine id_all ?_ | refine id_nat ?_ | refine id_le ?_))))
              have hex : (∃ row, row ∈ ints (last8 (H m) ++ [(x : Int)]) ∧ row.length = 1) = True := by
                rw [eq_iff_iff, iff_true]
                exact ⟨[i64 (x : Int)], by simp [ints], rfl⟩
              refine awp_drawG ttok ((0, none) :: (1, none) :: (2, none) :: (3, none) :: (4, none) :: (5, none) :: (6, none) :: (7, none) :: (8, none) :: (9, none) :: (10, none) :: (11, none) :: (12, none) :: (13, none) :: (14, none) :: (15, some []) :: []) ([]) ([]) (by decide +kernel) fun O hO => ?_; simp only [OpsAre, Nat.reduceAdd, and_true, List.toList_toArray, List.append_eq, List.cons_append, List.nil_append] at hO; simp (maxSteps := 4000000) only [↓reduceIte, Nat.reduceLT, Nat.reduceEqDiff, reduceCtorEq, Nat.reduceAdd, Nat.reduceMul, Int.reduceLE, Int.reduceLT, Int.reduceToNat, Nat.reduceLeDiff, Nat.reduceSub, Int.reduceEq, Nat.reduceBEq, evB, tyA, hO, hex, or_true, sents_len, hsl, hsl2, hgS2, hst, List.set_set, ints_len, ints_take, ints_drop, hA1, hsw, hmx, hdr, hdt]; (repeat (with_reducible refine And.intro ?_ ?_; exact sdX))
              (repeat (first | refine awp_seq ?_ | refine awp_block ?_ | ((first | refine awp_skip ?_ | refine awp_exit ?_ | refine awp_reg ttok ?_ | (refine awp_draw ttok ?dr_calm ?_; (case dr_calm => decide +kernel)) | refine awp_condM ?_); simp (maxSteps := 4000000) only [↓reduceIte, Nat.reduceLT, Nat.reduceEqDiff, reduceCtorEq, Nat.reduceAdd, Nat.reduceMul, Int.reduceLE, Int.reduceLT, Int.reduceToNat, Nat.reduceLeDiff, Nat.reduceSub, Int.reduceEq, Nat.reduceBEq, evB, tyA, hm1, hm2, hgW, wys_len, ints_len, ints_take, ints_app, hone, hr1, hB1, hB2, hB3, hws, hwi, Nat.zero_add]; (repeat (with_reducible refine And.intro ?_ ?_; exact sdX)); (with_reducible first | refine awp_id ?_ | refine id_call ?_ | refine id_and ?_ | refine id_ex ?_ | refine id_all ?_ | refine id_nat ?_ | refine id_le ?_))))
              refine ⟨(i + 1, updH H m (H m ++ [(x : Int)])), ⟨by simp only; omega, by simp only; omega, fun j => ?_⟩, by simp only; omega, mkS_le rfl ?_ ?_⟩
              · simp only [updH]
                have := hH j
                split
                · rw [hB1]; omega
                · omega
              · exact evX
              · simp (maxSteps := 4000000) only [↓reduceIte, Nat.reduceLT, Nat.reduceEqDiff, reduceCtorEq, Nat.reduceAdd, Nat.reduceMul, Int.reduceLE, Int.reduceLT, Int.reduceToNat, Nat.reduceLeDiff, Nat.reduceSub, Int.reduceEq, Nat.reduceBEq, evB, hfin, hoth1, hoth2]
            | 1, _ =>
              obtain ⟨m, hm⟩ : ∃ m, m = 3 * 1 + b := ⟨_, rfl⟩
              have hgS : (sents (sS H 1)).getD b [] = [i64 (H m).length, .sl false (ints (last8 (H m)))] := by rw [hm]; exact sents_get (sS_get hb)
              have hgS2 : ∀ (c : Int) (w : List Int), (sents ((sS H 1).set b (c, false, w))).getD b [] = [i64 c, .sl false (ints w)] := fun c w => sents_get (set_at (by rw [sS_len]; exact hb) _)
              have hst : ∀ (L : List (Int × Bool × List Int)) (c : Int) (w : List Int), List.set (sents L) b [D.v (Value.int IntKind.i64 c), D.sl false (ints w)] = sents (L.set b (c, false, w)) := fun L c w => sents_set L b c w
              have hsl := sS_len H 1
              have hsl2 : ∀ x, ((sS H 1).set b x).length = 3 := fun x => by rw [List.length_set, hsl]
              have hHm := hH m
              have hl8 := last8_len (H m)
              have hcw : IntKind.i64.wrap (((H m).length : Int) + 1) = (((H m).length + 1 : Nat) : Int) := i64_in (by omega) (by omega)
              have hA1 : (last8 (H m) ++ [(x : Int)]).length = (last8 (H m)).length + 1 := by simp
              have hA2 : List.take ((last8 (H m)).length + 1) (last8 (H m) ++ [(x : Int)]) = last8 (H m) ++ [(x : Int)] := List.take_of_length_le (by omega)
              have hA3 : List.take (last8 (H m)).length (last8 (H m)) = last8 (H m) := List.take_length
              have hsw : IntKind.i64.wrap ((((last8 (H m)).length + 1 : Nat) : Int) - 8) = ((last8 (H m)).length : Int) - 7 := by rw [i64_in (by omega) (by omega)]; omega
              have hmx : (if 0 > ((last8 (H m)).length : Int) - 7 then (0 : Int) else ((last8 (H m)).length : Int) - 7) = (((last8 (H m)).length - 7 : Nat) : Int) := by split <;> omega
              have hdr : List.drop ((last8 (H m)).length - 7) (last8 (H m) ++ [(x : Int)]) = last8 (H m ++ [(x : Int)]) := by
                rw [← last8_snoc]; unfold last8; simp only [List.length_append, List.length_cons, List.length_nil]; rfl
              have hdt : List.take ((last8 (H m)).length + 1 - ((last8 (H m)).length - 7)) (last8 (H m ++ [(x : Int)])) = last8 (H m ++ [(x : Int)]) := List.take_of_length_le (by rw [← hdr, List.length_drop, hA1]; exact Nat.le_refl _)
              have hm1 : IntKind.i64.wrap (3 * ((1 : Nat) : Int)) = 3 := rfl
              have hm2 : IntKind.i64.wrap (3 + (b : Int)) = ((m : Nat) : Int) := by rw [i64_in (by omega) (by omega)]; omega
              have hgW := wys_get (H := H) (T := fun _ => 0) (i := m) (by omega)
              have hW0 : wayP H (fun _ => 0) m = H m := rfl
              rw [hW0] at hgW
              have hB1 : (H m ++ [(x : Int)]).length = (H m).length + 1 := by simp
              have hB2 : List.take ((H m).length + 1) (H m ++ [(x : Int)]) = H m ++ [(x : Int)] := List.take_of_length_le (by omega)
              have hB3 : List.take (H m).length (H m) = H m := List.take_length
              have hws : List.set (wys H fun _ => 0) m [D.sl false (ints (H m ++ [(x : Int)]))] = wys (updH H m (H m ++ [(x : Int)])) fun _ => 0 := wys_set (by omega) (by have := wayP_send H (fun _ => 0) (i := m) (x : Int) (Nat.zero_le _); rw [this]; rfl) (fun j hj => wayP_sendO H _ _ hj)
              have hfin : (sS H 1).set b ((((H m).length + 1 : Nat) : Int), false, last8 (H m ++ [(x : Int)])) = sS (updH H m (H m ++ [(x : Int)])) 1 := by
                have := sS_upd H (a := 1) hb (H m ++ [(x : Int)])
                rw [← hm, hB1] at this
                exact this.symm
              have hoth0 := sS_other H hb (show 0 ≠ 1 by decide) (H m ++ [(x : Int)])
              rw [← hm] at hoth0
              have hoth2 := sS_other H hb (show 2 ≠ 1 by decide) (H m ++ [(x : Int)])
              rw [← hm] at hoth2
              (repeat (first | refine awp_seq ?_ | refine awp_block ?_ | ((first | refine awp_skip ?_ | refine awp_exit ?_ | refine awp_reg ttok ?_ | (refine awp_draw ttok ?dr_calm ?_; (case dr_calm => decide +kernel)) | refine awp_condM ?_); simp (maxSteps := 4000000) only [↓reduceIte, Nat.reduceLT, Nat.reduceEqDiff, reduceCtorEq, Nat.reduceAdd, Nat.reduceMul, Int.reduceLE, Int.reduceLT, Int.reduceToNat, Nat.reduceLeDiff, Nat.reduceSub, Int.reduceEq, Nat.reduceBEq, evB, tyA, List.cons_append, List.nil_append, List.getD_cons_zero, List.getD_cons_succ, List.length_cons, List.length_nil, Nat.reduceAdd, List.set_cons_zero, List.set_cons_succ, List.getD_cons_zero, sents_len, hsl, hgS, hgS2, hst, hsl2, List.set_set, hcw, ints_len, ints_take, ints_app, hone, hr1, hA1, hA2, hA3, Nat.zero_add]; (repeat (with_reducible refine And.intro ?_ ?_; exact sdX)); (with_reducible first | refine awp_id ?_ | refine id_call ?_ | refine id_and ?_ | refine id_ex ?_ | refine id_all ?_ | refine id_nat ?_ | refine id_le ?_))))
              have hex : (∃ row, row ∈ ints (last8 (H m) ++ [(x : Int)]) ∧ row.length = 1) = True := by
                rw [eq_iff_iff, iff_true]
                exact ⟨[i64 (x : Int)], by simp [ints], rfl⟩
              refine awp_drawG ttok ((0, none) :: (1, none) :: (2, none) :: (3, none) :: (4, none) :: (5, none) :: (6, none) :: (7, none) :: (8, none) :: (9, none) :: (10, none) :: (11, none) :: (12, none) :: (13, none) :: (14, none) :: (15, some []) :: []) ([]) ([]) (by decide +kernel) fun O hO => ?_; simp only [OpsAre, Nat.reduceAdd, and_true, List.toList_toArray, List.append_eq, List.cons_append, List.nil_append] at hO; simp (maxSteps := 4000000) only [↓reduceIte, Nat.reduceLT, Nat.reduceEqDiff, reduceCtorEq, Nat.reduceAdd, Nat.reduceMul, Int.reduceLE, Int.reduceLT, Int.reduceToNat, Nat.reduceLeDiff, Nat.reduceSub, Int.reduceEq, Nat.reduceBEq, evB, tyA, hO, hex, or_true, sents_len, hsl, hsl2, hgS2, hst, List.set_set, ints_len, ints_take, ints_drop, hA1, hsw, hmx, hdr, hdt]; (repeat (with_reducible refine And.intro ?_ ?_; exact sdX))
              (repeat (first | refine awp_seq ?_ | refine awp_block ?_ | ((first | refine awp_skip ?_ | refine awp_exit ?_ | refine awp_reg ttok ?_ | (refine awp_draw ttok ?dr_calm ?_; (case dr_calm => decide +kernel)) | refine awp_condM ?_); simp (maxSteps := 4000000) only [↓reduceIte, Nat.reduceLT, Nat.reduceEqDiff, reduceCtorEq, Nat.reduceAdd, Nat.reduceMul, Int.reduceLE, Int.reduceLT, Int.reduceToNat, Nat.reduceLeDiff, Nat.reduceSub, Int.reduceEq, Nat.reduceBEq, evB, tyA, hm1, hm2, hgW, wys_len, ints_len, ints_take, ints_app, hone, hr1, hB1, hB2, hB3, hws, hwi, Nat.zero_add]; (repeat (with_reducible refine And.intro ?_ ?_; exact sdX)); (with_reducible first | refine awp_id ?_ | refine id_call ?_ | refine id_and ?_ | refine id_ex ?_ | refine id_all ?_ | refine id_nat ?_ | refine id_le ?_))))
              refine ⟨(i + 1, updH H m (H m ++ [(x : Int)])), ⟨by simp only; omega, by simp only; omega, fun j => ?_⟩, by simp only; omega, mkS_le rfl ?_ ?_⟩
              · simp only [updH]
                have := hH j
                split
                · rw [hB1]; omega
                · omega
              · exact evX
              · simp (maxSteps := 4000000) only [↓reduceIte, Nat.reduceLT, Nat.reduceEqDiff, reduceCtorEq, Nat.reduceAdd, Nat.reduceMul, Int.reduceLE, Int.reduceLT, Int.reduceToNat, Nat.reduceLeDiff, Nat.reduceSub, Int.reduceEq, Nat.reduceBEq, evB, hfin, hoth0, hoth2]
            | 2, _ =>
              obtain ⟨m, hm⟩ : ∃ m, m = 3 * 2 + b := ⟨_, rfl⟩
              have hgS : (sents (sS H 2)).getD b [] = [i64 (H m).length, .sl false (ints (last8 (H m)))] := by rw [hm]; exact sents_get (sS_get hb)
              have hgS2 : ∀ (c : Int) (w : List Int), (sents ((sS H 2).set b (c, false, w))).getD b [] = [i64 c, .sl false (ints w)] := fun c w => sents_get (set_at (by rw [sS_len]; exact hb) _)
              have hst : ∀ (L : List (Int × Bool × List Int)) (c : Int) (w : List Int), List.set (sents L) b [D.v (Value.int IntKind.i64 c), D.sl false (ints w)] = sents (L.set b (c, false, w)) := fun L c w => sents_set L b c w
              have hsl := sS_len H 2
              have hsl2 : ∀ x, ((sS H 2).set b x).length = 3 := fun x => by rw [List.length_set, hsl]
              have hHm := hH m
              have hl8 := last8_len (H m)
              have hcw : IntKind.i64.wrap (((H m).length : Int) + 1) = (((H m).length + 1 : Nat) : Int) := i64_in (by omega) (by omega)
              have hA1 : (last8 (H m) ++ [(x : Int)]).length = (last8 (H m)).length + 1 := by simp
              have hA2 : List.take ((last8 (H m)).length + 1) (last8 (H m) ++ [(x : Int)]) = last8 (H m) ++ [(x : Int)] := List.take_of_length_le (by omega)
              have hA3 : List.take (last8 (H m)).length (last8 (H m)) = last8 (H m) := List.take_length
              have hsw : IntKind.i64.wrap ((((last8 (H m)).length + 1 : Nat) : Int) - 8) = ((last8 (H m)).length : Int) - 7 := by rw [i64_in (by omega) (by omega)]; omega
              have hmx : (if 0 > ((last8 (H m)).length : Int) - 7 then (0 : Int) else ((last8 (H m)).length : Int) - 7) = (((last8 (H m)).length - 7 : Nat) : Int) := by split <;> omega
              have hdr : List.drop ((last8 (H m)).length - 7) (last8 (H m) ++ [(x : Int)]) = last8 (H m ++ [(x : Int)]) := by
                rw [← last8_snoc]; unfold last8; simp only [List.length_append, List.length_cons, List.length_nil]; rfl
              have hdt : List.take ((last8 (H m)).length + 1 - ((last8 (H m)).length - 7)) (last8 (H m ++ [(x : Int)])) = last8 (H m ++ [(x : Int)]) := List.take_of_length_le (by rw [← hdr, List.length_drop, hA1]; exact Nat.le_refl _)
              have hm1 : IntKind.i64.wrap (3 * ((2 : Nat) : Int)) = 6 := rfl
              have hm2 : IntKind.i64.wrap (6 + (b : Int)) = ((m : Nat) : Int) := by rw [i64_in (by omega) (by omega)]; omega
              have hgW := wys_get (H := H) (T := fun _ => 0) (i := m) (by omega)
              have hW0 : wayP H (fun _ => 0) m = H m := rfl
              rw [hW0] at hgW
              have hB1 : (H m ++ [(x : Int)]).length = (H m).length + 1 := by simp
              have hB2 : List.take ((H m).length + 1) (H m ++ [(x : Int)]) = H m ++ [(x : Int)] := List.take_of_length_le (by omega)
              have hB3 : List.take (H m).length (H m) = H m := List.take_length
              have hws : List.set (wys H fun _ => 0) m [D.sl false (ints (H m ++ [(x : Int)]))] = wys (updH H m (H m ++ [(x : Int)])) fun _ => 0 := wys_set (by omega) (by have := wayP_send H (fun _ => 0) (i := m) (x : Int) (Nat.zero_le _); rw [this]; rfl) (fun j hj => wayP_sendO H _ _ hj)
              have hfin : (sS H 2).set b ((((H m).length + 1 : Nat) : Int), false, last8 (H m ++ [(x : Int)])) = sS (updH H m (H m ++ [(x : Int)])) 2 := by
                have := sS_upd H (a := 2) hb (H m ++ [(x : Int)])
                rw [← hm, hB1] at this
                exact this.symm
              have hoth0 := sS_other H hb (show 0 ≠ 2 by decide) (H m ++ [(x : Int)])
              rw [← hm] at hoth0
              have hoth1 := sS_other H hb (show 1 ≠ 2 by decide) (H m ++ [(x : Int)])
              rw [← hm] at hoth1
              (repeat (first | refine awp_seq ?_ | refine awp_block ?_ | ((first | refine awp_skip ?_ | refine awp_exit ?_ | refine awp_reg ttok ?_ | (refine awp_draw ttok ?dr_calm ?_; (case dr_calm => decide +kernel)) | refine awp_condM ?_); simp (maxSteps := 4000000) only [↓reduceIte, Nat.reduceLT, Nat.reduceEqDiff, reduceCtorEq, Nat.reduceAdd, Nat.reduceMul, Int.reduceLE, Int.reduceLT, Int.reduceToNat, Nat.reduceLeDiff, Nat.reduceSub, Int.reduceEq, Nat.reduceBEq, evB, tyA, List.cons_append, List.nil_append, List.getD_cons_zero, List.getD_cons_succ, List.length_cons, List.length_nil, Nat.reduceAdd, List.set_cons_zero, List.set_cons_succ, List.getD_cons_zero, sents_len, hsl, hgS, hgS2, hst, hsl2, List.set_set, hcw, ints_len, ints_take, ints_app, hone, hr1, hA1, hA2, hA3, Nat.zero_add]; (repeat (with_reducible refine And.intro ?_ ?_; exact sdX)); (with_reducible first | refine awp_id ?_ | refine id_call ?_ | refine id_and ?_ | refine id_ex ?_ | refine id_all ?_ | refine id_nat ?_ | refine id_le ?_))))
              have hex : (∃ row, row ∈ ints (last8 (H m) ++ [(x : Int)]) ∧ row.length = 1) = True := by
                rw [eq_iff_iff, iff_true]
                exact ⟨[i64 (x : Int)], by simp [ints], rfl⟩
              refine awp_drawG ttok ((0, none) :: (1, none) :: (2, none) :: (3, none) :: (4, none) :: (5, none) :: (6, none) :: (7, none) :: (8, none) :: (9, none) :: (10, none) :: (11, none) :: (12, none) :: (13, none) :: (14, none) :: (15, some []) :: []) ([]) ([]) (by decide +kernel) fun O hO => ?_; simp only [OpsAre, Nat.reduceAdd, and_true, List.toList_toArray, List.append_eq, List.cons_append, List.nil_append] at hO; simp (maxSteps := 4000000) only [↓reduceIte, Nat.reduceLT, Nat.reduceEqDiff, reduceCtorEq, Nat.reduceAdd, Nat.reduceMul, Int.reduceLE, Int.reduceLT, Int.reduceToNat, Nat.reduceLeDiff, Nat.reduceSub, Int.reduceEq, Nat.reduceBEq, evB, tyA, hO, hex, or_true, sents_len, hsl, hsl2, hgS2, hst, List.set_set, ints_len, ints_take, ints_drop, hA1, hsw, hmx, hdr, hdt]; (repeat (with_reducible refine And.intro ?_ ?_; exact sdX))
              (repeat (first | refine awp_seq ?_ | refine awp_block ?_ | ((first | refine awp_skip ?_ | refine awp_exit ?_ | refine awp_reg ttok ?_ | (refine awp_draw ttok ?dr_calm ?_; (case dr_calm => decide +kernel)) | refine awp_condM ?_); simp (maxSteps := 4000000) only [↓reduceIte, Nat.reduceLT, Nat.reduceEqDiff, reduceCtorEq, Nat.reduceAdd, Nat.reduceMul, Int.reduceLE, Int.reduceLT, Int.reduceToNat, Nat.reduceLeDiff, Nat.reduceSub, Int.reduceEq, Nat.reduceBEq, evB, tyA, hm1, hm2, hgW, wys_len, ints_len, ints_take, ints_app, hone, hr1, hB1, hB2, hB3, hws, hwi, Nat.zero_add]; (repeat (with_reducible refine And.intro ?_ ?_; exact sdX)); (with_reducible first | refine awp_id ?_ | refine id_call ?_ | refine id_and ?_ | refine id_ex ?_ | refine id_all ?_ | refine id_nat ?_ | refine id_le ?_))))
              refine ⟨(i + 1, updH H m (H m ++ [(x : Int)])), ⟨by simp only; omega, by simp only; omega, fun j => ?_⟩, by simp only; omega, mkS_le rfl ?_ ?_⟩
              · simp only [updH]
                have := hH j
                split
                · rw [hB1]; omega
                · omega
              · exact evX
              · simp (maxSteps := 4000000) only [↓reduceIte, Nat.reduceLT, Nat.reduceEqDiff, reduceCtorEq, Nat.reduceAdd, Nat.reduceMul, Int.reduceLE, Int.reduceLT, Int.reduceToNat, Nat.reduceLeDiff, Nat.reduceSub, Int.reduceEq, Nat.reduceBEq, evB, hfin, hoth0, hoth1]
          · have hd : (decide ((i : Int) < (sd.length : Int)) = true ∧ decide ((i : Int) < 20) = false) ∨ (decide ((i : Int) < (sd.length : Int)) = false ∧ True) := by
              by_cases h : i < sd.length
              · left; exact ⟨by simpa using h, by simp; omega⟩
              · right; exact ⟨by simp; omega, trivial⟩
            rcases hd with ⟨d1, d2⟩ | ⟨d1, d2⟩
            all_goals
              (repeat (first | refine awp_seq ?_ | refine awp_block ?_ | ((first | refine awp_skip ?_ | refine awp_exit ?_ | refine awp_reg ttok ?_ | (refine awp_draw ttok ?dr_calm ?_; (case dr_calm => decide +kernel)) | refine awp_condM ?_); simp (maxSteps := 4000000) only [↓reduceIte, Nat.reduceLT, Nat.reduceEqDiff, reduceCtorEq, Nat.reduceAdd, Nat.reduceMul, Int.reduceLE, Int.reduceLT, Int.reduceToNat, Nat.reduceLeDiff, Nat.reduceSub, Int.reduceEq, Nat.reduceBEq, evB, tyA, d1, d2, tri_len, joinX]; (repeat (with_reducible refine And.intro ?_ ?_; exact sdX)); (with_reducible first | refine awp_id ?_ | refine id_call ?_ | refine id_and ?_ | refine id_ex ?_ | refine id_all ?_ | refine id_nat ?_ | refine id_le ?_))))
              refine ⟨H, fun j => Nat.le_trans (hH j) hi, mkS_le rfl ?_ ?_⟩
              · exact evX
              · exact evX
      · intro H hH
        (repeat (first | refine awp_seq ?_ | refine awp_block ?_ | ((first | refine awp_skip ?_ | refine awp_exit ?_ | refine awp_reg ttok ?_ | (refine awp_draw ttok ?dr_calm ?_; (case dr_calm => decide +kernel)) | refine awp_condM ?_); simp (maxSteps := 4000000) only [↓reduceIte, Nat.reduceLT, Nat.reduceEqDiff, reduceCtorEq, Nat.reduceAdd, Nat.reduceMul, Int.reduceLE, Int.reduceLT, Int.reduceToNat, Nat.reduceLeDiff, Nat.reduceSub, Int.reduceEq, Nat.reduceBEq, evB, tyA]; (repeat (with_reducible refine And.intro ?_ ?_; exact sdX)); (with_reducible first | refine awp_id ?_ | refine id_call ?_ | refine id_and ?_ | refine id_ex ?_ | refine id_all ?_ | refine id_nat ?_ | refine id_le ?_))))
        refine awp_joinX (X := TT) 4 (fun T => mkS 292 [(2, i64 rm), (7, .own 2000 0 3), (9, .own 7000 0 9)] [(2000, { sz := 4, rows := [[i64 0, i64 4, .own 9100 0 3, .own 9200 0 3], [i64 0, i64 5, .own 9101 0 3, .own 9201 0 3], [i64 0, i64 6, .own 9102 0 3, .own 9202 0 3]], flat := false }), (9100, { sz := 2, rows := sents (sS H 0) }), (9101, { sz := 2, rows := sents (sS H 1) }), (9102, { sz := 2, rows := sents (sS H 2) }), (9200, { sz := 1, rows := ints (tT T 0) }), (9201, { sz := 1, rows := ints (tT T 1) }), (9202, { sz := 1, rows := ints (tT T 2) }), (7000, { sz := 1, rows := wys H T })]) (fun T => ∀ j, T j ≤ (H j).length) ?_ ?_
        rotate_left
        · refine awp_loop (X := Nat × TT) (fun q => mkS 292 [(1, .sl g (ints tk)), (2, i64 rm), (7, .own 2000 0 3), (9, .own 7000 0 9), (15, i64 q.1)] [(2000, { sz := 4, rows := [[i64 0, i64 4, .own 9100 0 3, .own 9200 0 3], [i64 0, i64 5, .own 9101 0 3, .own 9201 0 3], [i64 0, i64 6, .own 9102 0 3, .own 9202 0 3]], flat := false }), (9100, { sz := 2, rows := sents (sS H 0) }), (9101, { sz := 2, rows := sents (sS H 1) }), (9102, { sz := 2, rows := sents (sS H 2) }), (9200, { sz := 1, rows := ints (tT q.2 0) }), (9201, { sz := 1, rows := ints (tT q.2 1) }), (9202, { sz := 1, rows := ints (tT q.2 2) }), (7000, { sz := 1, rows := wys H q.2 })]) (fun q => q.1 ≤ 12 ∧ q.1 ≤ tk.length ∧ ∀ j, q.2 j ≤ (H j).length) (fun q => 12 - q.1) (0, fun _ => 0) ⟨Nat.zero_le _, Nat.zero_le _, fun j => Nat.zero_le _⟩ (mkS_le rfl ?_ ?_) ?_
          · simp (maxSteps := 4000000) only [↓reduceIte, Nat.reduceLT, Nat.reduceEqDiff, reduceCtorEq, Nat.reduceAdd, Nat.reduceMul, Int.reduceLE, Int.reduceLT, Int.reduceToNat, Nat.reduceLeDiff, Nat.reduceSub, Int.reduceEq, Nat.reduceBEq, evB]
            try rfl
          · simp (maxSteps := 4000000) only [↓reduceIte, Nat.reduceLT, Nat.reduceEqDiff, reduceCtorEq, Nat.reduceAdd, Nat.reduceMul, Int.reduceLE, Int.reduceLT, Int.reduceToNat, Nat.reduceLeDiff, Nat.reduceSub, Int.reduceEq, Nat.reduceBEq, evB]
            try rfl
          · rintro ⟨i, T⟩ ⟨hi, his, hT⟩
            simp only at hi his hT
            by_cases hlt : i < tk.length ∧ i < 12
            · have d1 : decide ((i : Int) < (tk.length : Int)) = true := by simp; omega
              have d2 : decide ((i : Int) < 12) = true := by simp; omega
              have hwi : IntKind.i64.wrap ((i : Int) + 1) = ((i + 1 : Nat) : Int) := i64_in (by omega) (by omega)
              have gt := ints_get hlt.1
              generalize tk.getD i 0 = y at gt
              obtain ⟨a0, ha0, haw0⟩ := and_low y 255 (by decide)
              have haw : IntKind.i64.wrap ((BitVec.ofInt IntKind.i64.bits y &&& BitVec.ofInt IntKind.i64.bits 255).toNat : Int) = (a0 : Int) := haw0
              obtain ⟨b0, hb0, hbw0⟩ := and_low (y.fdiv (2 ^ min 8 IntKind.i64.bits)) 255 (by decide)
              have hbw : IntKind.i64.wrap ((BitVec.ofInt IntKind.i64.bits (y.fdiv (2 ^ min 8 IntKind.i64.bits)) &&& BitVec.ofInt IntKind.i64.bits 255).toNat : Int) = (b0 : Int) := hbw0
              obtain ⟨C16, hC16, hw160⟩ := and_low (y.fdiv (2 ^ min 16 IntKind.i64.bits)) 7 (by decide)
              have hw16 : IntKind.i64.wrap ((BitVec.ofInt IntKind.i64.bits (y.fdiv (2 ^ min 16 IntKind.i64.bits)) &&& BitVec.ofInt IntKind.i64.bits 7).toNat : Int) = (C16 : Int) := hw160
              obtain ⟨a, ha, ham⟩ : ∃ a : Nat, a < 3 ∧ (a0 : Int).tmod 3 = (a : Int) := ⟨a0 % 3, Nat.mod_lt _ (by decide), by rw [Int.tmod_eq_emod_of_nonneg (by omega)]; omega⟩
              obtain ⟨b, hb, hbm⟩ : ∃ b : Nat, b < 3 ∧ (b0 : Int).tmod 3 = (b : Int) := ⟨b0 % 3, Nat.mod_lt _ (by decide), by rw [Int.tmod_eq_emod_of_nonneg (by omega)]; omega⟩
              (repeat (first | refine awp_seq ?_ | refine awp_block ?_ | ((first | refine awp_skip ?_ | refine awp_exit ?_ | refine awp_reg ttok ?_ | (refine awp_draw ttok ?dr_calm ?_; (case dr_calm => decide +kernel)) | refine awp_condM ?_); simp (maxSteps := 4000000) only [↓reduceIte, Nat.reduceLT, Nat.reduceEqDiff, reduceCtorEq, Nat.reduceAdd, Nat.reduceMul, Int.reduceLE, Int.reduceLT, Int.reduceToNat, Nat.reduceLeDiff, Nat.reduceSub, Int.reduceEq, Nat.reduceBEq, evB, tyA, d1, d2, ints_len]; (repeat (with_reducible refine And.intro ?_ ?_; exact sdX)); (with_reducible first | refine awp_id ?_ | refine id_call ?_ | refine id_and ?_ | refine id_ex ?_ | refine id_all ?_ | refine id_nat ?_ | refine id_le ?_))))
              refine awp_drawG ttok ((0, none) :: (1, none) :: (2, none) :: (3, none) :: (4, none) :: (5, none) :: (6, none) :: (7, none) :: (8, none) :: (9, none) :: (10, none) :: (11, none) :: (12, none) :: (13, none) :: (14, none) :: []) (0 :: 1 :: 2 :: 3 :: 4 :: 5 :: 6 :: 7 :: 8 :: 9 :: 10 :: 11 :: 12 :: 13 :: 14 :: []) (0 :: 1 :: 2 :: 3 :: 4 :: 5 :: 13 :: 6 :: 7 :: 8 :: 9 :: 10 :: 11 :: 12 :: 14 :: []) (by decide +kernel) fun O hO => ?_; simp only [OpsAre, Nat.reduceAdd, and_true, List.toList_toArray, List.append_eq, List.cons_append, List.nil_append] at hO; simp (maxSteps := 4000000) only [↓reduceIte, Nat.reduceLT, Nat.reduceEqDiff, reduceCtorEq, Nat.reduceAdd, Nat.reduceMul, Int.reduceLE, Int.reduceLT, Int.reduceToNat, Nat.reduceLeDiff, Nat.reduceSub, Int.reduceEq, Nat.reduceBEq, evB, tyA, hO, gt, ints_len, haw, hbw, ham, hbm]; (repeat (with_reducible refine And.intro ?_ ?_; exact sdX))
              match b, hb with
              | 0, _ =>
                obtain ⟨m, hm⟩ : ∃ m, m = 3 * a + 0 := ⟨_, rfl⟩
                have hm9 : m < 9 := by omega
                have hm1 : IntKind.i64.wrap (3 * (a : Int)) = ((3 * a : Nat) : Int) := by rw [i64_in (by omega) (by omega)]; omega
                have hm2 : IntKind.i64.wrap (((3 * a : Nat) : Int) + ((0 : Nat) : Int)) = (m : Int) := by rw [i64_in (by omega) (by omega)]; omega
                have hgW := wys_get (H := H) (T := T) hm9
                have hwl := wayP_len H T m
                have hHm := hH m
                have hTm := hT m
                have hgT0 : (tT T 0).getD a 0 = ((T m : Nat) : Int) := by rw [hm]; exact tT_get ha
                have hgT := ints_get (l := tT T 0) (i := a) (by rw [tT_len]; exact ha)
                rw [hgT0] at hgT
                have htw : IntKind.i64.wrap (((T m : Nat) : Int) + 1) = ((T m + 1 : Nat) : Int) := i64_in (by omega) (by omega)
                have hsT : ∀ y : Int, List.set (ints (tT T 0)) a [D.v (Value.int IntKind.i64 y)] = ints ((tT T 0).set a y) := fun y => by simp [ints]
                have hfin := tT_upd T (b := 0) ha (by decide) (T m + 1)
                rw [← hm] at hfin
                have hoth1 := tT_other T (a := a) (b := 0) (b' := 1) (by decide) (by decide) (by decide) (T m + 1)
                rw [← hm] at hoth1
                have hoth2 := tT_other T (a := a) (b := 0) (b' := 2) (by decide) (by decide) (by decide) (T m + 1)
                rw [← hm] at hoth2
                have htl := tT_len T 0
                obtain ⟨T', hT'⟩ : ∃ T', T' = updT T m (T m + 1) := ⟨_, rfl⟩
                rw [← hT'] at hfin hoth1 hoth2
                by_cases hpos : 0 < (wayP H T m).length
                · have d3 : decide (((wayP H T m).length : Int) > 0) = true := by simp only [gt_iff_lt, decide_eq_true_eq]; omega
                  have hws : List.set (wys H T) m [D.sl false (ints (List.drop 1 (wayP H T m)))] = wys H T' := wys_set hm9 (by rw [hT']; exact wayP_take H T m) (fun j hj => by rw [hT']; exact wayP_takeO H T _ hj)
                  have hdt : List.take ((wayP H T m).length - 1) (List.drop 1 (wayP H T m)) = List.drop 1 (wayP H T m) := List.take_of_length_le (by rw [List.length_drop]; exact Nat.le_refl _)
                  (repeat (first | refine awp_seq ?_ | refine awp_block ?_ | ((first | refine awp_skip ?_ | refine awp_exit ?_ | refine awp_reg ttok ?_ | (refine awp_draw ttok ?dr_calm ?_; (case dr_calm => decide +kernel)) | refine awp_condM ?_); simp (maxSteps := 4000000) only [↓reduceIte, Nat.reduceLT, Nat.reduceEqDiff, reduceCtorEq, Nat.reduceAdd, Nat.reduceMul, Int.reduceLE, Int.reduceLT, Int.reduceToNat, Nat.reduceLeDiff, Nat.reduceSub, Int.reduceEq, Nat.reduceBEq, evB, tyA, hm1, hm2, hgW, wys_len, ints_len, d3, List.cons_append, List.nil_append, List.getD_cons_zero, List.getD_cons_succ, List.length_cons, List.length_nil, Nat.reduceAdd, List.set_cons_zero, List.set_cons_succ, hgT, htl, htw, hsT, ← hfin, ints_drop, ints_take, hdt, hws, hwi]; (repeat (with_reducible refine And.intro ?_ ?_; exact sdX)); (with_reducible first | refine awp_id ?_ | refine id_call ?_ | refine id_and ?_ | refine id_ex ?_ | refine id_all ?_ | refine id_nat ?_ | refine id_le ?_))))
                  refine ⟨(i + 1, T'), ⟨by simp only; omega, by simp only; omega, fun j => ?_⟩, by simp only; omega, mkS_le rfl ?_ ?_⟩
                  · rw [hT']
                    simp only [updT]
                    have := hT j
                    split
                    · rename_i e; subst e; omega
                    · exact this
                  · exact evX
                  · simp (maxSteps := 4000000) only [↓reduceIte, Nat.reduceLT, Nat.reduceEqDiff, reduceCtorEq, Nat.reduceAdd, Nat.reduceMul, Int.reduceLE, Int.reduceLT, Int.reduceToNat, Nat.reduceLeDiff, Nat.reduceSub, Int.reduceEq, Nat.reduceBEq, evB, ← hfin, hoth1, hoth2]
                · have d3 : decide (((wayP H T m).length : Int) > 0) = false := by simp only [gt_iff_lt, decide_eq_false_iff_not]; omega
                  by_cases hc : C16 = 0
                  · have hce : ((C16 : Int) == 0) = true := by rw [hc]; rfl
                    have hgt : T' m = (H m).length + 1 := by rw [hT']; unfold updT; rw [if_pos rfl]; omega
                    have hno : wall H T' 8 = false := wall_no hm9 (by unfold wok; rw [Bool.and_eq_false_iff, decide_eq_false_iff_not]; left; omega)
                    have hM := c_Mail H T' 8 (by decide) (fun j => by have := hH j; omega) (fun j => by rw [hT']; unfold updT; have := hT j; have := hH j; split <;> omega)
                    unfold mailD at hM
                    rw [hno, if_neg (by decide), show ims H T' = [[i64 0, i64 4, .sl false (sents (sS H 0)), .sl false (ints (tT T' 0))], [i64 0, i64 5, .sl false (sents (sS H 1)), .sl false (ints (tT T' 1))], [i64 0, i64 6, .sl false (sents (sS H 2)), .sl false (ints (tT T' 2))]] from rfl, hoth1, hoth2] at hM
                    have htS : ∀ a, List.take 3 (sents (sS H a)) = sents (sS H a) := fun a => List.take_of_length_le (by rw [sents_len, sS_len]; exact Nat.le_refl _)
                    have htT : ∀ U a, List.take 3 (tT U a) = tT U a := fun U a => List.take_of_length_le (by rw [tT_len]; exact Nat.le_refl _)
                    have hSl3 : ∀ a, (sents (sS H a)).length = 3 := fun a => by rw [sents_len, sS_len]
                    (repeat (first | refine awp_seq ?_ | refine awp_block ?_ | ((first | refine awp_skip ?_ | refine awp_exit ?_ | refine awp_reg ttok ?_ | (refine awp_draw ttok ?dr_calm ?_; (case dr_calm => decide +kernel)) | refine awp_condM ?_); simp (maxSteps := 4000000) only [↓reduceIte, Nat.reduceLT, Nat.reduceEqDiff, reduceCtorEq, Nat.reduceAdd, Nat.reduceMul, Int.reduceLE, Int.reduceLT, Int.reduceToNat, Nat.reduceLeDiff, Nat.reduceSub, Int.reduceEq, Nat.reduceBEq, evB, tyA, hm1, hm2, hgW, wys_len, ints_len, d3, gt, hw16, hce, List.cons_append, List.nil_append, List.getD_cons_zero, List.getD_cons_succ, List.length_cons, List.length_nil, Nat.reduceAdd, List.set_cons_zero, List.set_cons_succ, hgT, htl, htw, hsT, ← hfin]; (repeat (with_reducible refine And.intro ?_ ?_; exact sdX)); (with_reducible first | refine awp_id ?_ | refine id_call ?_ | refine id_and ?_ | refine id_ex ?_ | refine id_all ?_ | refine id_nat ?_ | refine id_le ?_))))
                    simp (maxSteps := 4000000) only [↓reduceIte, Nat.reduceLT, Nat.reduceEqDiff, reduceCtorEq, Nat.reduceAdd, Nat.reduceMul, Int.reduceLE, Int.reduceLT, Int.reduceToNat, Nat.reduceLeDiff, Nat.reduceSub, Int.reduceEq, Nat.reduceBEq, evB, htS, htT, hSl3, tT_len]
                    refine callVC_mk fnok4 hM rfl ?_
                    simp (maxSteps := 4000000) only [↓reduceIte, Nat.reduceLT, Nat.reduceEqDiff, reduceCtorEq, Nat.reduceAdd, Nat.reduceMul, Int.reduceLE, Int.reduceLT, Int.reduceToNat, Nat.reduceLeDiff, Nat.reduceSub, Int.reduceEq, Nat.reduceBEq, evB, tyA]
                    (repeat (with_reducible refine And.intro ?_ ?_; exact sdX))
                    (repeat (first | refine awp_seq ?_ | refine awp_block ?_ | ((first | refine awp_skip ?_ | refine awp_exit ?_ | refine awp_reg ttok ?_ | (refine awp_draw ttok ?dr_calm ?_; (case dr_calm => decide +kernel)) | refine awp_condM ?_); simp (maxSteps := 4000000) only [↓reduceIte, Nat.reduceLT, Nat.reduceEqDiff, reduceCtorEq, Nat.reduceAdd, Nat.reduceMul, Int.reduceLE, Int.reduceLT, Int.reduceToNat, Nat.reduceLeDiff, Nat.reduceSub, Int.reduceEq, Nat.reduceBEq, evB, tyA]; (repeat (with_reducible refine And.intro ?_ ?_; exact sdX)); (with_reducible first | refine awp_id ?_ | refine id_call ?_ | refine id_and ?_ | refine id_ex ?_ | refine id_all ?_ | refine id_nat ?_ | refine id_le ?_))))
                    refine callVC_scal fnok5 c_awake40 rfl ?_
                    simp (maxSteps := 4000000) only [↓reduceIte, Nat.reduceLT, Nat.reduceEqDiff, reduceCtorEq, Nat.reduceAdd, Nat.reduceMul, Int.reduceLE, Int.reduceLT, Int.reduceToNat, Nat.reduceLeDiff, Nat.reduceSub, Int.reduceEq, Nat.reduceBEq, evB, tyA]
                    (repeat (with_reducible refine And.intro ?_ ?_; exact sdX))
                    (repeat (first | refine awp_seq ?_ | refine awp_block ?_ | ((first | refine awp_skip ?_ | refine awp_exit ?_ | refine awp_reg ttok ?_ | (refine awp_draw ttok ?dr_calm ?_; (case dr_calm => decide +kernel)) | refine awp_condM ?_); simp (maxSteps := 4000000) only [↓reduceIte, Nat.reduceLT, Nat.reduceEqDiff, reduceCtorEq, Nat.reduceAdd, Nat.reduceMul, Int.reduceLE, Int.reduceLT, Int.reduceToNat, Nat.reduceLeDiff, Nat.reduceSub, Int.reduceEq, Nat.reduceBEq, evB, tyA, joinX]; (repeat (with_reducible refine And.intro ?_ ?_; exact sdX)); (with_reducible first | refine awp_id ?_ | refine id_call ?_ | refine id_and ?_ | refine id_ex ?_ | refine id_all ?_ | refine id_nat ?_ | refine id_le ?_))))
                    exact awp_ret (ends_plain (.inr rfl) rfl evX)
                  · have hce : ((C16 : Int) == 0) = false := by rw [beq_eq_false_iff_ne]; omega
                    (repeat (first | refine awp_seq ?_ | refine awp_block ?_ | ((first | refine awp_skip ?_ | refine awp_exit ?_ | refine awp_reg ttok ?_ | (refine awp_draw ttok ?dr_calm ?_; (case dr_calm => decide +kernel)) | refine awp_condM ?_); simp (maxSteps := 4000000) only [↓reduceIte, Nat.reduceLT, Nat.reduceEqDiff, reduceCtorEq, Nat.reduceAdd, Nat.reduceMul, Int.reduceLE, Int.reduceLT, Int.reduceToNat, Nat.reduceLeDiff, Nat.reduceSub, Int.reduceEq, Nat.reduceBEq, evB, tyA, hm1, hm2, hgW, wys_len, ints_len, d3, gt, hw16, hce, hwi]; (repeat (with_reducible refine And.intro ?_ ?_; exact sdX)); (with_reducible first | refine awp_id ?_ | refine id_call ?_ | refine id_and ?_ | refine id_ex ?_ | refine id_all ?_ | refine id_nat ?_ | refine id_le ?_))))
                    refine ⟨(i + 1, T), ⟨by simp only; omega, by simp only; omega, hT⟩, by simp only; omega, mkS_le rfl ?_ ?_⟩
                    · exact evX
                    · exact evX
              | 1, _ =>
                obtain ⟨m, hm⟩ : ∃ m, m = 3 * a + 1 := ⟨_, rfl⟩
                have hm9 : m < 9 := by omega
                have hm1 : IntKind.i64.wrap (3 * (a : Int)) = ((3 * a : Nat) : Int) := by rw [i64_in (by omega) (by omega)]; omega
                have hm2 : IntKind.i64.wrap (((3 * a : Nat) : Int) + ((1 : Nat) : Int)) = (m : Int) := by rw [i64_in (by omega) (by omega)]; omega
                have hgW := wys_get (H := H) (T := T) hm9
                have hwl := wayP_len H T m
                have hHm := hH m
                have hTm := hT m
                have hgT0 : (tT T 1).getD a 0 = ((T m : Nat) : Int) := by rw [hm]; exact tT_get ha
                have hgT := ints_get (l := tT T 1) (i := a) (by rw [tT_len]; exact ha)
                rw [hgT0] at hgT
                have htw : IntKind.i64.wrap (((T m : Nat) : Int) + 1) = ((T m + 1 : Nat) : Int) := i64_in (by omega) (by omega)
                have hsT : ∀ y : Int, List.set (ints (tT T 1)) a [D.v (Value.int IntKind.i64 y)] = ints ((tT T 1).set a y) := fun y => by simp [ints]
                have hfin := tT_upd T (b := 1) ha (by decide) (T m + 1)
                rw [← hm] at hfin
                have hoth0 := tT_other T (a := a) (b := 1) (b' := 0) (by decide) (by decide) (by decide) (T m + 1)
                rw [← hm] at hoth0
                have hoth2 := tT_other T (a := a) (b := 1) (b' := 2) (by decide) (by decide) (by decide) (T m + 1)
                rw [← hm] at hoth2
                have htl := tT_len T 1
                obtain ⟨T', hT'⟩ : ∃ T', T' = updT T m (T m + 1) := ⟨_, rfl⟩
                rw [← hT'] at hfin hoth0 hoth2
                by_cases hpos : 0 < (wayP H T m).length
                · have d3 : decide (((wayP H T m).length : Int) > 0) = true := by simp only [gt_iff_lt, decide_eq_true_eq]; omega
                  have hws : List.set (wys H T) m [D.sl false (ints (List.drop 1 (wayP H T m)))] = wys H T' := wys_set hm9 (by rw [hT']; exact wayP_take H T m) (fun j hj => by rw [hT']; exact wayP_takeO H T _ hj)
                  have hdt : List.take ((wayP H T m).length - 1) (List.drop 1 (wayP H T m)) = List.drop 1 (wayP H T m) := List.take_of_length_le (by rw [List.length_drop]; exact Nat.le_refl _)
                  (repeat (first | refine awp_seq ?_ | refine awp_block ?_ | ((first | refine awp_skip ?_ | refine awp_exit ?_ | refine awp_reg ttok ?_ | (refine awp_draw ttok ?dr_calm ?_; (case dr_calm => decide +kernel)) | refine awp_condM ?_); simp (maxSteps := 4000000) only [↓reduceIte, Nat.reduceLT, Nat.reduceEqDiff, reduceCtorEq, Nat.reduceAdd, Nat.reduceMul, Int.reduceLE, Int.reduceLT, Int.reduceToNat, Nat.reduceLeDiff, Nat.reduceSub, Int.reduceEq, Nat.reduceBEq, evB, tyA, hm1, hm2, hgW, wys_len, ints_len, d3, List.cons_append, List.nil_append, List.getD_cons_zero, List.getD_cons_succ, List.length_cons, List.length_nil, Nat.reduceAdd, List.set_cons_zero, List.set_cons_succ, hgT, htl, htw, hsT, ← hfin, ints_drop, ints_take, hdt, hws, hwi]; (repeat (with_reducible refine And.intro ?_ ?_; exact sdX)); (with_reducible first | refine awp_id ?_ | refine id_call ?_ | refine id_and ?_ | refine id_ex ?_ | refine id_all ?_ | refine id_nat ?_ | refine id_le ?_))))
                  refine ⟨(i + 1, T'), ⟨by simp only; omega, by simp only; omega, fun j => ?_⟩, by simp only; omega, mkS_le rfl ?_ ?_⟩
                  · rw [hT']
                    simp only [updT]
                    have := hT j
                    split
                    · rename_i e; subst e; omega
                    · exact this
                  · exact evX
                  · simp (maxSteps := 4000000) only [↓reduceIte, Nat.reduceLT, Nat.reduceEqDiff, reduceCtorEq, Nat.reduceAdd, Nat.reduceMul, Int.reduceLE, Int.reduceLT, Int.reduceToNat, Nat.reduceLeDiff, Nat.reduceSub, Int.reduceEq, Nat.reduceBEq, evB, ← hfin, hoth0, hoth2]
                · have d3 : decide (((wayP H T m).length : Int) > 0) = false := by simp only [gt_iff_lt, decide_eq_false_iff_not]; omega
                  by_cases hc : C16 = 0
                  · have hce : ((C16 : Int) == 0) = true := by rw [hc]; rfl
                    have hgt : T' m = (H m).length + 1 := by rw [hT']; unfold updT; rw [if_pos rfl]; omega
                    have hno : wall H T' 8 = false := wall_no hm9 (by unfold wok; rw [Bool.and_eq_false_iff, decide_eq_false_iff_not]; left; omega)
                    have hM := c_Mail H T' 8 (by decide) (fun j => by have := hH j; omega) (fun j => by rw [hT']; unfold updT; have := hT j; have := hH j; split <;> omega)
                    unfold mailD at hM
                    rw [hno, if_neg (by decide), show ims H T' = [[i64 0, i64 4, .sl false (sents (sS H 0)), .sl false (ints (tT T' 0))], [i64 0, i64 5, .sl false (sents (sS H 1)), .sl false (ints (tT T' 1))], [i64 0, i64 6, .sl false (sents (sS H 2)), .sl false (ints (tT T' 2))]] from rfl, hoth0, hoth2] at hM
                    have htS : ∀ a, List.take 3 (sents (sS H a)) = sents (sS H a) := fun a => List.take_of_length_le (by rw [sents_len, sS_len]; exact Nat.le_refl _)
                    have htT : ∀ U a, List.take 3 (tT U a) = tT U a := fun U a => List.take_of_length_le (by rw [tT_len]; exact Nat.le_refl _)
                    have hSl3 : ∀ a, (sents (sS H a)).length = 3 := fun a => by rw [sents_len, sS_len]
                    (repeat (first | refine awp_seq ?_ | refine awp_block ?_ | ((first | refine awp_skip ?_ | refine awp_exit ?_ | refine awp_reg ttok ?_ | (refine awp_draw ttok ?dr_calm ?_; (case dr_calm => decide +kernel)) | refine awp_condM ?_); simp (maxSteps := 4000000) only [↓reduceIte, Nat.reduceLT, Nat.reduceEqDiff, reduceCtorEq, Nat.reduceAdd, Nat.reduceMul, Int.reduceLE, Int.reduceLT, Int.reduceToNat, Nat.reduceLeDiff, Nat.reduceSub, Int.reduceEq, Nat.reduceBEq, evB, tyA, hm1, hm2, hgW, wys_len, ints_len, d3, gt, hw16, hce, List.cons_append, List.nil_append, List.getD_cons_zero, List.getD_cons_succ, List.length_cons, List.length_nil, Nat.reduceAdd, List.set_cons_zero, List.set_cons_succ, hgT, htl, htw, hsT, ← hfin]; (repeat (with_reducible refine And.intro ?_ ?_; exact sdX)); (with_reducible first | refine awp_id ?_ | refine id_call ?_ | refine id_and ?_ | refine id_ex ?_ | refine id_all ?_ | refine id_nat ?_ | refine id_le ?_))))
                    simp (maxSteps := 4000000) only [↓reduceIte, Nat.reduceLT, Nat.reduceEqDiff, reduceCtorEq, Nat.reduceAdd, Nat.reduceMul, Int.reduceLE, Int.reduceLT, Int.reduceToNat, Nat.reduceLeDiff, Nat.reduceSub, Int.reduceEq, Nat.reduceBEq, evB, htS, htT, hSl3, tT_len]
                    refine callVC_mk fnok4 hM rfl ?_
                    simp (maxSteps := 4000000) only [↓reduceIte, Nat.reduceLT, Nat.reduceEqDiff, reduceCtorEq, Nat.reduceAdd, Nat.reduceMul, Int.reduceLE, Int.reduceLT, Int.reduceToNat, Nat.reduceLeDiff, Nat.reduceSub, Int.reduceEq, Nat.reduceBEq, evB, tyA]
                    (repeat (with_reducible refine And.intro ?_ ?_; exact sdX))
                    (repeat (first | refine awp_seq ?_ | refine awp_block ?_ | ((first | refine awp_skip ?_ | refine awp_exit ?_ | refine awp_reg ttok ?_ | (refine awp_draw ttok ?dr_calm ?_; (case dr_calm => decide +kernel)) | refine awp_condM ?_); simp (maxSteps := 4000000) only [↓reduceIte, Nat.reduceLT, Nat.reduceEqDiff, reduceCtorEq, Nat.reduceAdd, Nat.reduceMul, Int.reduceLE, Int.reduceLT, Int.reduceToNat, Nat.reduceLeDiff, Nat.reduceSub, Int.reduceEq, Nat.reduceBEq, evB, tyA]; (repeat (with_reducible refine And.intro ?_ ?_; exact sdX)); (with_reducible first | refine awp_id ?_ | refine id_call ?_ | refine id_and ?_ | refine id_ex ?_ | refine id_all ?_ | refine id_nat ?_ | refine id_le ?_))))
                    refine callVC_scal fnok5 c_awake40 rfl ?_
                    simp (maxSteps := 4000000) only [↓reduceIte, Nat.reduceLT, Nat.reduceEqDiff, reduceCtorEq, Nat.reduceAdd, Nat.reduceMul, Int.reduceLE, Int.reduceLT, Int.reduceToNat, Nat.reduceLeDiff, Nat.reduceSub, Int.reduceEq, Nat.reduceBEq, evB, tyA]
                    (repeat (with_reducible refine And.intro ?_ ?_; exact sdX))
                    (repeat (first | refine awp_seq ?_ | refine awp_block ?_ | ((first | refine awp_skip ?_ | refine awp_exit ?_ | refine awp_reg ttok ?_ | (refine awp_draw ttok ?dr_calm ?_; (case dr_calm => decide +kernel)) | refine awp_condM ?_); simp (maxSteps := 4000000) only [↓reduceIte, Nat.reduceLT, Nat.reduceEqDiff, reduceCtorEq, Nat.reduceAdd, Nat.reduceMul, Int.reduceLE, Int.reduceLT, Int.reduceToNat, Nat.reduceLeDiff, Nat.reduceSub, Int.reduceEq, Nat.reduceBEq, evB, tyA, joinX]; (repeat (with_reducible refine And.intro ?_ ?_; exact sdX)); (with_reducible first | refine awp_id ?_ | refine id_call ?_ | refine id_and ?_ | refine id_ex ?_ | refine id_all ?_ | refine id_nat ?_ | refine id_le ?_))))
                    exact awp_ret (ends_plain (.inr rfl) rfl evX)
                  · have hce : ((C16 : Int) == 0) = false := by rw [beq_eq_false_iff_ne]; omega
                    (repeat (first | refine awp_seq ?_ | refine awp_block ?_ | ((first | refine awp_skip ?_ | refine awp_exit ?_ | refine awp_reg ttok ?_ | (refine awp_draw ttok ?dr_calm ?_; (case dr_calm => decide +kernel)) | refine awp_condM ?_); simp (maxSteps := 4000000) only [↓reduceIte, Nat.reduceLT, Nat.reduceEqDiff, reduceCtorEq, Nat.reduceAdd, Nat.reduceMul, Int.reduceLE, Int.reduceLT, Int.reduceToNat, Nat.reduceLeDiff, Nat.reduceSub, Int.reduceEq, Nat.reduceBEq, evB, tyA, hm1, hm2, hgW, wys_len, ints_len, d3, gt, hw16, hce, hwi]; (repeat (with_reducible refine And.intro ?_ ?_; exact sdX)); (with_reducible first | refine awp_id ?_ | refine id_call ?_ | refine id_and ?_ | refine id_ex ?_ | refine id_all ?_ | refine id_nat ?_ | refine id_le ?_))))
                    refine ⟨(i + 1, T), ⟨by simp only; omega, by simp only; omega, hT⟩, by simp only; omega, mkS_le rfl ?_ ?_⟩
                    · exact evX
                    · exact evX
              | 2, _ =>
                obtain ⟨m, hm⟩ : ∃ m, m = 3 * a + 2 := ⟨_, rfl⟩
                have hm9 : m < 9 := by omega
                have hm1 : IntKind.i64.wrap (3 * (a : Int)) = ((3 * a : Nat) : Int) := by rw [i64_in (by omega) (by omega)]; omega
                have hm2 : IntKind.i64.wrap (((3 * a : Nat) : Int) + ((2 : Nat) : Int)) = (m : Int) := by rw [i64_in (by omega) (by omega)]; omega
                have hgW := wys_get (H := H) (T := T) hm9
                have hwl := wayP_len H T m
                have hHm := hH m
                have hTm := hT m
                have hgT0 : (tT T 2).getD a 0 = ((T m : Nat) : Int) := by rw [hm]; exact tT_get ha
                have hgT := ints_get (l := tT T 2) (i := a) (by rw [tT_len]; exact ha)
                rw [hgT0] at hgT
                have htw : IntKind.i64.wrap (((T m : Nat) : Int) + 1) = ((T m + 1 : Nat) : Int) := i64_in (by omega) (by omega)
                have hsT : ∀ y : Int, List.set (ints (tT T 2)) a [D.v (Value.int IntKind.i64 y)] = ints ((tT T 2).set a y) := fun y => by simp [ints]
                have hfin := tT_upd T (b := 2) ha (by decide) (T m + 1)
                rw [← hm] at hfin
                have hoth0 := tT_other T (a := a) (b := 2) (b' := 0) (by decide) (by decide) (by decide) (T m + 1)
                rw [← hm] at hoth0
                have hoth1 := tT_other T (a := a) (b := 2) (b' := 1) (by decide) (by decide) (by decide) (T m + 1)
                rw [← hm] at hoth1
                have htl := tT_len T 2
                obtain ⟨T', hT'⟩ : ∃ T', T' = updT T m (T m + 1) := ⟨_, rfl⟩
                rw [← hT'] at hfin hoth0 hoth1
                by_cases hpos : 0 < (wayP H T m).length
                · have d3 : decide (((wayP H T m).length : Int) > 0) = true := by simp only [gt_iff_lt, decide_eq_true_eq]; omega
                  have hws : List.set (wys H T) m [D.sl false (ints (List.drop 1 (wayP H T m)))] = wys H T' := wys_set hm9 (by rw [hT']; exact wayP_take H T m) (fun j hj => by rw [hT']; exact wayP_takeO H T _ hj)
                  have hdt : List.take ((wayP H T m).length - 1) (List.drop 1 (wayP H T m)) = List.drop 1 (wayP H T m) := List.take_of_length_le (by rw [List.length_drop]; exact Nat.le_refl _)
                  (repeat (first | refine awp_seq ?_ | refine awp_block ?_ | ((first | refine awp_skip ?_ | refine awp_exit ?_ | refine awp_reg ttok ?_ | (refine awp_draw ttok ?dr_calm ?_; (case dr_calm => decide +kernel)) | refine awp_condM ?_); simp (maxSteps := 4000000) only [↓reduceIte, Nat.reduceLT, Nat.reduceEqDiff, reduceCtorEq, Nat.reduceAdd, Nat.reduceMul, Int.reduceLE, Int.reduceLT, Int.reduceToNat, Nat.reduceLeDiff, Nat.reduceSub, Int.reduceEq, Nat.reduceBEq, evB, tyA, hm1, hm2, hgW, wys_len, ints_len, d3, List.cons_append, List.nil_append, List.getD_cons_zero, List.getD_cons_succ, List.length_cons, List.length_nil, Nat.reduceAdd, List.set_cons_zero, List.set_cons_succ, hgT, htl, htw, hsT, ← hfin, ints_drop, ints_take, hdt, hws, hwi]; (repeat (with_reducible refine And.intro ?_ ?_; exact sdX)); (with_reducible first | refine awp_id ?_ | refine id_call ?_ | refine id_and ?_ | refine id_ex ?_ | refine id_all ?_ | refine id_nat ?_ | refine id_le ?_))))
                  refine ⟨(i + 1, T'), ⟨by simp only; omega, by simp only; omega, fun j => ?_⟩, by simp only; omega, mkS_le rfl ?_ ?_⟩
                  · rw [hT']
                    simp only [updT]
                    have := hT j
                    split
                    · rename_i e; subst e; omega
                    · exact this
                  · exact evX
                  · simp (maxSteps := 4000000) only [↓reduceIte, Nat.reduceLT, Nat.reduceEqDiff, reduceCtorEq, Nat.reduceAdd, Nat.reduceMul, Int.reduceLE, Int.reduceLT, Int.reduceToNat, Nat.reduceLeDiff, Nat.reduceSub, Int.reduceEq, Nat.reduceBEq, evB, ← hfin, hoth0, hoth1]
                · have d3 : decide (((wayP H T m).length : Int) > 0) = false := by simp only [gt_iff_lt, decide_eq_false_iff_not]; omega
                  by_cases hc : C16 = 0
                  · have hce : ((C16 : Int) == 0) = true := by rw [hc]; rfl
                    have hgt : T' m = (H m).length + 1 := by rw [hT']; unfold updT; rw [if_pos rfl]; omega
                    have hno : wall H T' 8 = false := wall_no hm9 (by unfold wok; rw [Bool.and_eq_false_iff, decide_eq_false_iff_not]; left; omega)
                    have hM := c_Mail H T' 8 (by decide) (fun j => by have := hH j; omega) (fun j => by rw [hT']; unfold updT; have := hT j; have := hH j; split <;> omega)
                    unfold mailD at hM
                    rw [hno, if_neg (by decide), show ims H T' = [[i64 0, i64 4, .sl false (sents (sS H 0)), .sl false (ints (tT T' 0))], [i64 0, i64 5, .sl false (sents (sS H 1)), .sl false (ints (tT T' 1))], [i64 0, i64 6, .sl false (sents (sS H 2)), .sl false (ints (tT T' 2))]] from rfl, hoth0, hoth1] at hM
                    have htS : ∀ a, List.take 3 (sents (sS H a)) = sents (sS H a) := fun a => List.take_of_length_le (by rw [sents_len, sS_len]; exact Nat.le_refl _)
                    have htT : ∀ U a, List.take 3 (tT U a) = tT U a := fun U a => List.take_of_length_le (by rw [tT_len]; exact Nat.le_refl _)
                    have hSl3 : ∀ a, (sents (sS H a)).length = 3 := fun a => by rw [sents_len, sS_len]
                    (repeat (first | refine awp_seq ?_ | refine awp_block ?_ | ((first | refine awp_skip ?_ | refine awp_exit ?_ | refine awp_reg ttok ?_ | (refine awp_draw ttok ?dr_calm ?_; (case dr_calm => decide +kernel)) | refine awp_condM ?_); simp (maxSteps := 4000000) only [↓reduceIte, Nat.reduceLT, Nat.reduceEqDiff, reduceCtorEq, Nat.reduceAdd, Nat.reduceMul, Int.reduceLE, Int.reduceLT, Int.reduceToNat, Nat.reduceLeDiff, Nat.reduceSub, Int.reduceEq, Nat.reduceBEq, evB, tyA, hm1, hm2, hgW, wys_len, ints_len, d3, gt, hw16, hce, List.cons_append, List.nil_append, List.getD_cons_zero, List.getD_cons_succ, List.length_cons, List.length_nil, Nat.reduceAdd, List.set_cons_zero, List.set_cons_succ, hgT, htl, htw, hsT, ← hfin]; (repeat (with_reducible refine And.intro ?_ ?_; exact sdX)); (with_reducible first | refine awp_id ?_ | refine id_call ?_ | refine id_and ?_ | refine id_ex ?_ | refine id_all ?_ | refine id_nat ?_ | refine id_le ?_))))
                    simp (maxSteps := 4000000) only [↓reduceIte, Nat.reduceLT, Nat.reduceEqDiff, reduceCtorEq, Nat.reduceAdd, Nat.reduceMul, Int.reduceLE, Int.reduceLT, Int.reduceToNat, Nat.reduceLeDiff, Nat.reduceSub, Int.reduceEq, Nat.reduceBEq, evB, htS, htT, hSl3, tT_len]
                    refine callVC_mk fnok4 hM rfl ?_
                    simp (maxSteps := 4000000) only [↓reduceIte, Nat.reduceLT, Nat.reduceEqDiff, reduceCtorEq, Nat.reduceAdd, Nat.reduceMul, Int.reduceLE, Int.reduceLT, Int.reduceToNat, Nat.reduceLeDiff, Nat.reduceSub, Int.reduceEq, Nat.reduceBEq, evB, tyA]
                    (repeat (with_reducible refine And.intro ?_ ?_; exact sdX))
                    (repeat (first | refine awp_seq ?_ | refine awp_block ?_ | ((first | refine awp_skip ?_ | refine awp_exit ?_ | refine awp_reg ttok ?_ | (refine awp_draw ttok ?dr_calm ?_; (case dr_calm => decide +kernel)) | refine awp_condM ?_); simp (maxSteps := 4000000) only [↓reduceIte, Nat.reduceLT, Nat.reduceEqDiff, reduceCtorEq, Nat.reduceAdd, Nat.reduceMul, Int.reduceLE, Int.reduceLT, Int.reduceToNat, Nat.reduceLeDiff, Nat.reduceSub, Int.reduceEq, Nat.reduceBEq, evB, tyA]; (repeat (with_reducible refine And.intro ?_ ?_; exact sdX)); (with_reducible first | refine awp_id ?_ | refine id_call ?_ | refine id_and ?_ | refine id_ex ?_ | refine id_all ?_ | refine id_nat ?_ | refine id_le ?_))))
                    refine callVC_scal fnok5 c_awake40 rfl ?_
                    simp (maxSteps := 4000000) only [↓reduceIte, Nat.reduceLT, Nat.reduceEqDiff, reduceCtorEq, Nat.reduceAdd, Nat.reduceMul, Int.reduceLE, Int.reduceLT, Int.reduceToNat, Nat.reduceLeDiff, Nat.reduceSub, Int.reduceEq, Nat.reduceBEq, evB, tyA]
                    (repeat (with_reducible refine And.intro ?_ ?_; exact sdX))
                    (repeat (first | refine awp_seq ?_ | refine awp_block ?_ | ((first | refine awp_skip ?_ | refine awp_exit ?_ | refine awp_reg ttok ?_ | (refine awp_draw ttok ?dr_calm ?_; (case dr_calm => decide +kernel)) | refine awp_condM ?_); simp (maxSteps := 4000000) only [↓reduceIte, Nat.reduceLT, Nat.reduceEqDiff, reduceCtorEq, Nat.reduceAdd, Nat.reduceMul, Int.reduceLE, Int.reduceLT, Int.reduceToNat, Nat.reduceLeDiff, Nat.reduceSub, Int.reduceEq, Nat.reduceBEq, evB, tyA, joinX]; (repeat (with_reducible refine And.intro ?_ ?_; exact sdX)); (with_reducible first | refine awp_id ?_ | refine id_call ?_ | refine id_and ?_ | refine id_ex ?_ | refine id_all ?_ | refine id_nat ?_ | refine id_le ?_))))
                    exact awp_ret (ends_plain (.inr rfl) rfl evX)
                  · have hce : ((C16 : Int) == 0) = false := by rw [beq_eq_false_iff_ne]; omega
                    (repeat (first | refine awp_seq ?_ | refine awp_block ?_ | ((first | refine awp_skip ?_ | refine awp_exit ?_ | refine awp_reg ttok ?_ | (refine awp_draw ttok ?dr_calm ?_; (case dr_calm => decide +kernel)) | refine awp_condM ?_); simp (maxSteps := 4000000) only [↓reduceIte, Nat.reduceLT, Nat.reduceEqDiff, reduceCtorEq, Nat.reduceAdd, Nat.reduceMul, Int.reduceLE, Int.reduceLT, Int.reduceToNat, Nat.reduceLeDiff, Nat.reduceSub, Int.reduceEq, Nat.reduceBEq, evB, tyA, hm1, hm2, hgW, wys_len, ints_len, d3, gt, hw16, hce, hwi]; (repeat (with_reducible refine And.intro ?_ ?_; exact sdX)); (with_reducible first | refine awp_id ?_ | refine id_call ?_ | refine id_and ?_ | refine id_ex ?_ | refine id_all ?_ | refine id_nat ?_ | refine id_le ?_))))
                    refine ⟨(i + 1, T), ⟨by simp only; omega, by simp only; omega, hT⟩, by simp only; omega, mkS_le rfl ?_ ?_⟩
                    · exact evX
                    · exact evX
            · have hd : (decide ((i : Int) < (tk.length : Int)) = true ∧ decide ((i : Int) < 12) = false) ∨ (decide ((i : Int) < (tk.length : Int)) = false ∧ True) := by
                by_cases h : i < tk.length
                · left; exact ⟨by simpa using h, by simp; omega⟩
                · right; exact ⟨by simp; omega, trivial⟩
              rcases hd with ⟨d1, d2⟩ | ⟨d1, d2⟩
              all_goals
                (repeat (first | refine awp_seq ?_ | refine awp_block ?_ | ((first | refine awp_skip ?_ | refine awp_exit ?_ | refine awp_reg ttok ?_ | (refine awp_draw ttok ?dr_calm ?_; (case dr_calm => decide +kernel)) | refine awp_condM ?_); simp (maxSteps := 4000000) only [↓reduceIte, Nat.reduceLT, Nat.reduceEqDiff, reduceCtorEq, Nat.reduceAdd, Nat.reduceMul, Int.reduceLE, Int.reduceLT, Int.reduceToNat, Nat.reduceLeDiff, Nat.reduceSub, Int.reduceEq, Nat.reduceBEq, evB, tyA, d1, d2, ints_len, joinX]; (repeat (with_reducible refine And.intro ?_ ?_; exact sdX)); (with_reducible first | refine awp_id ?_ | refine id_call ?_ | refine id_and ?_ | refine id_ex ?_ | refine id_all ?_ | refine id_nat ?_ | refine id_le ?_))))
                refine ⟨T, hT, mkS_le rfl ?_ ?_⟩
                · exact evX
                · exact evX
        · intro T hT
          obtain ⟨C7, hC7, h7w0⟩ := and_low rm 7 (by decide)
          have h7w : IntKind.i64.wrap ((BitVec.ofInt IntKind.i64.bits rm &&& BitVec.ofInt IntKind.i64.bits 7).toNat : Int) = (C7 : Int) := h7w0
          obtain ⟨r, hr⟩ : ∃ r, r = C7 + 1 := ⟨_, rfl⟩
          have hrw : IntKind.i64.wrap ((C7 : Int) + 1) = ((r : Nat) : Int) := by rw [hr]; exact i64_in (by omega) (by omega)
          have htS : ∀ a, List.take 3 (sents (sS H a)) = sents (sS H a) := fun a => List.take_of_length_le (by rw [sents_len, sS_len]; exact Nat.le_refl _)
          have htT : ∀ a, List.take 3 (tT T a) = tT T a := fun a => List.take_of_length_le (by rw [tT_len]; exact Nat.le_refl _)
          have hSl3 : ∀ a, (sents (sS H a)).length = 3 := fun a => by rw [sents_len, sS_len]
          have him : [[i64 0, i64 4, .sl false (sents (sS H 0)), .sl false (ints (tT T 0))], [i64 0, i64 5, .sl false (sents (sS H 1)), .sl false (ints (tT T 1))], [i64 0, i64 6, .sl false (sents (sS H 2)), .sl false (ints (tT T 2))]] = ims H T := rfl
          have hi3 : List.take 3 (ims H T) = ims H T := rfl
          have hM := c_Mail H T r (by omega) (fun j => by have := hH j; omega) (fun j => by have := hT j; have := hH j; omega)
          have hall := wle_all (H := H) (T := T) r (fun i _ => hT i)
          obtain ⟨bx, ok, hmd, hok, hb1, hb0⟩ : ∃ bx ok, mailD H T r = .tup [.agg [i64 ((3 : Nat) : Int), i64 r, .sl false (iss bx)], bo ok] ∧ ok = wle H T r 9 ∧ (ok = true → bx = bxs H T 9 0) ∧ (ok = false → bx = nob 9) := by
            unfold mailD
            rw [hall]
            cases hwa : wall H T r
            · refine ⟨nob 9, false, ?_, rfl, fun z => ?_, fun _ => rfl⟩
              · rw [if_neg (by decide)]; rfl
              · cases z
            · refine ⟨bxs H T 9 0, true, ?_, rfl, fun _ => rfl, fun z => ?_⟩
              · rw [if_pos rfl]; rfl
              · cases z
          rw [hmd] at hM
          clear hmd hall
          have hwcl := wct_le (T := T) (fun j => Nat.le_trans (hH j) (show 20 ≤ 1000 by decide))
          refine awp_pure 7 (d := .own 2000 0 3) evX (d' := .sl false (ims H T)) (by simp (maxSteps := 4000000) only [↓reduceIte, Nat.reduceLT, Nat.reduceEqDiff, reduceCtorEq, Nat.reduceAdd, Nat.reduceMul, Int.reduceLE, Int.reduceLT, Int.reduceToNat, Nat.reduceLeDiff, Nat.reduceSub, Int.reduceEq, Nat.reduceBEq, evB, htS, htT, ints_take, him, hi3]; rfl) (by simp (maxSteps := 4000000) only [↓reduceIte, Nat.reduceLT, Nat.reduceEqDiff, reduceCtorEq, Nat.reduceAdd, Nat.reduceMul, Int.reduceLE, Int.reduceLT, Int.reduceToNat, Nat.reduceLeDiff, Nat.reduceSub, Int.reduceEq, Nat.reduceBEq, evB, hSl3, tT_len, ints_len, him, ims_len]) ?_
          (repeat (first | refine awp_seq ?_ | refine awp_block ?_ | ((first | refine awp_skip ?_ | refine awp_exit ?_ | refine awp_reg ttok ?_ | (refine awp_draw ttok ?dr_calm ?_; (case dr_calm => decide +kernel)) | refine awp_condM ?_); simp (maxSteps := 4000000) only [↓reduceIte, Nat.reduceLT, Nat.reduceEqDiff, reduceCtorEq, Nat.reduceAdd, Nat.reduceMul, Int.reduceLE, Int.reduceLT, Int.reduceToNat, Nat.reduceLeDiff, Nat.reduceSub, Int.reduceEq, Nat.reduceBEq, evB, tyA, h7w, hrw]; (repeat (with_reducible refine And.intro ?_ ?_; exact sdX)); (with_reducible first | refine awp_id ?_ | refine id_call ?_ | refine id_and ?_ | refine id_ex ?_ | refine id_all ?_ | refine id_nat ?_ | refine id_le ?_))))
          refine callVC_mk fnok4 hM rfl ?_
          simp (maxSteps := 4000000) only [↓reduceIte, Nat.reduceLT, Nat.reduceEqDiff, reduceCtorEq, Nat.reduceAdd, Nat.reduceMul, Int.reduceLE, Int.reduceLT, Int.reduceToNat, Nat.reduceLeDiff, Nat.reduceSub, Int.reduceEq, Nat.reduceBEq, evB, tyA]
          (repeat (with_reducible refine And.intro ?_ ?_; exact sdX))
          (repeat (first | refine awp_seq ?_ | refine awp_block ?_ | ((first | refine awp_skip ?_ | refine awp_exit ?_ | refine awp_reg ttok ?_ | (refine awp_draw ttok ?dr_calm ?_; (case dr_calm => decide +kernel)) | refine awp_condM ?_); simp (maxSteps := 4000000) only [↓reduceIte, Nat.reduceLT, Nat.reduceEqDiff, reduceCtorEq, Nat.reduceAdd, Nat.reduceMul, Int.reduceLE, Int.reduceLT, Int.reduceToNat, Nat.reduceLeDiff, Nat.reduceSub, Int.reduceEq, Nat.reduceBEq, evB, tyA]; (repeat (with_reducible refine And.intro ?_ ?_; exact sdX)); (with_reducible first | refine awp_id ?_ | refine id_call ?_ | refine id_and ?_ | refine id_ex ?_ | refine id_all ?_ | refine id_nat ?_ | refine id_le ?_))))
          refine awp_loop (X := Nat) (fun i => mkS 292 [(7, .sl false (ims H T)), (9, .own 7000 0 9), (20, i64 r), (21, .ptr 29006 0 0), (22, bo ok), (23, bo (wle H T r i)), (24, i64 (wct H T i)), (25, i64 i)] [(7000, { sz := 1, rows := wys H T }), (29006, { sz := 3, rows := [[i64 ((3 : Nat) : Int), i64 r, .sl false (iss bx)]], flat := false })]) (fun i => i ≤ 9) (fun i => 9 - i) 0 (Nat.zero_le _) (mkS_le rfl ?_ ?_) ?_
          · simp (maxSteps := 4000000) only [↓reduceIte, Nat.reduceLT, Nat.reduceEqDiff, reduceCtorEq, Nat.reduceAdd, Nat.reduceMul, Int.reduceLE, Int.reduceLT, Int.reduceToNat, Nat.reduceLeDiff, Nat.reduceSub, Int.reduceEq, Nat.reduceBEq, evB, St.pureSlot]
            try exact ⟨rfl, rfl, rfl⟩
          · simp (maxSteps := 4000000) only [↓reduceIte, Nat.reduceLT, Nat.reduceEqDiff, reduceCtorEq, Nat.reduceAdd, Nat.reduceMul, Int.reduceLE, Int.reduceLT, Int.reduceToNat, Nat.reduceLeDiff, Nat.reduceSub, Int.reduceEq, Nat.reduceBEq, evB, St.pureSlot]
            try rfl
          · intro i hi
            by_cases hlt : i < 9
            · have d1 : decide ((i : Int) < 9) = true := by simp; omega
              have hwi : IntKind.i64.wrap ((i : Int) + 1) = ((i + 1 : Nat) : Int) := i64_in (by omega) (by omega)
              have gw := wys_get (H := H) (T := T) hlt
              have hst := wle_succ H T r i
              have hct : wct H T (i + 1) = wct H T i + (wayP H T i).length := rfl
              have hcl := hwcl i
              have hcw := wayP_len H T i
              have hHi := hH i
              have hcc : IntKind.i64.wrap ((wct H T i : Int) + ((wayP H T i).length : Int)) = ((wct H T (i + 1) : Nat) : Int) := by rw [hct, i64_in (by omega) (by omega)]; omega
              have hle : decide (((wayP H T i).length : Int) ≤ (r : Int)) = decide ((wayP H T i).length ≤ r) := by simp
              cases hwv : wle H T r i
              · rw [hwv, Bool.false_and] at hst
                (repeat (first | refine awp_seq ?_ | refine awp_block ?_ | ((first | refine awp_skip ?_ | refine awp_exit ?_ | refine awp_reg ttok ?_ | (refine awp_draw ttok ?dr_calm ?_; (case dr_calm => decide +kernel)) | refine awp_condM ?_); simp (maxSteps := 4000000) only [↓reduceIte, Nat.reduceLT, Nat.reduceEqDiff, reduceCtorEq, Nat.reduceAdd, Nat.reduceMul, Int.reduceLE, Int.reduceLT, Int.reduceToNat, Nat.reduceLeDiff, Nat.reduceSub, Int.reduceEq, Nat.reduceBEq, evB, tyA, d1, gw, wys_len, ints_len, hcc, hwi]; (repeat (with_reducible refine And.intro ?_ ?_; exact sdX)); (with_reducible first | refine awp_id ?_ | refine id_call ?_ | refine id_and ?_ | refine id_ex ?_ | refine id_all ?_ | refine id_nat ?_ | refine id_le ?_))))
                refine ⟨i + 1, by omega, by omega, mkS_le rfl ?_ ?_⟩
                · simp (maxSteps := 4000000) only [↓reduceIte, Nat.reduceLT, Nat.reduceEqDiff, reduceCtorEq, Nat.reduceAdd, Nat.reduceMul, Int.reduceLE, Int.reduceLT, Int.reduceToNat, Nat.reduceLeDiff, Nat.reduceSub, Int.reduceEq, Nat.reduceBEq, evB, hst]
                · exact evX
              · rw [hwv, Bool.true_and] at hst
                (repeat (first | refine awp_seq ?_ | refine awp_block ?_ | ((first | refine awp_skip ?_ | refine awp_exit ?_ | refine awp_reg ttok ?_ | (refine awp_draw ttok ?dr_calm ?_; (case dr_calm => decide +kernel)) | refine awp_condM ?_); simp (maxSteps := 4000000) only [↓reduceIte, Nat.reduceLT, Nat.reduceEqDiff, reduceCtorEq, Nat.reduceAdd, Nat.reduceMul, Int.reduceLE, Int.reduceLT, Int.reduceToNat, Nat.reduceLeDiff, Nat.reduceSub, Int.reduceEq, Nat.reduceBEq, evB, tyA, d1, gw, wys_len, ints_len, hcc, hwi, hle]; (repeat (with_reducible refine And.intro ?_ ?_; exact sdX)); (with_reducible first | refine awp_id ?_ | refine id_call ?_ | refine id_and ?_ | refine id_ex ?_ | refine id_all ?_ | refine id_nat ?_ | refine id_le ?_))))
                refine ⟨i + 1, by omega, by omega, mkS_le rfl ?_ ?_⟩
                · simp (maxSteps := 4000000) only [↓reduceIte, Nat.reduceLT, Nat.reduceEqDiff, reduceCtorEq, Nat.reduceAdd, Nat.reduceMul, Int.reduceLE, Int.reduceLT, Int.reduceToNat, Nat.reduceLeDiff, Nat.reduceSub, Int.reduceEq, Nat.reduceBEq, evB, hst]
                · exact evX
            · have d1 : decide ((i : Int) < 9) = false := by simp; omega
              obtain rfl : i = 9 := by omega
              have hSt := c_States H T
              have hSa := c_Same false false [4, 5, 6] [4, 5, 6] (by decide)
              have kb : (([4, 5, 6] : List Int) == [4, 5, 6]) = true := rfl
              rw [kb] at hSa
              have e4 : [[i64 4], [i64 5], [i64 6]] = ints [4, 5, 6] := rfl
              have ht4 : List.take 3 (ints [4, 5, 6]) = ints [4, 5, 6] := rfl
              have hl4 : (ints [4, 5, 6]).length = 3 := rfl
              rw [← hok]
              cases ok
              · have hb0 := hb0 rfl
                subst hb0
                have hC := c_Count false (nob 9) 3 r (by decide) (fun b hb => by
                  have := List.eq_of_mem_replicate (show b ∈ List.replicate 9 (true, ([] : List Int)) from hb)
                  subst this; decide)
                rw [cnt_nob] at hC
                have kf : (false != false) = false := rfl
                have k00 : (((0 : Nat) : Int) == 0) = true := rfl
                (repeat (first | refine awp_seq ?_ | refine awp_block ?_ | ((first | refine awp_skip ?_ | refine awp_exit ?_ | refine awp_reg ttok ?_ | (refine awp_draw ttok ?dr_calm ?_; (case dr_calm => decide +kernel)) | refine awp_condM ?_); simp (maxSteps := 4000000) only [↓reduceIte, Nat.reduceLT, Nat.reduceEqDiff, reduceCtorEq, Nat.reduceAdd, Nat.reduceMul, Int.reduceLE, Int.reduceLT, Int.reduceToNat, Nat.reduceLeDiff, Nat.reduceSub, Int.reduceEq, Nat.reduceBEq, evB, tyA, d1]; (repeat (with_reducible refine And.intro ?_ ?_; exact sdX)); (with_reducible first | refine awp_id ?_ | refine id_call ?_ | refine id_and ?_ | refine id_ex ?_ | refine id_all ?_ | refine id_nat ?_ | refine id_le ?_))))
                refine callVC_mk fnok6 hSt rfl ?_
                simp (maxSteps := 4000000) only [↓reduceIte, Nat.reduceLT, Nat.reduceEqDiff, reduceCtorEq, Nat.reduceAdd, Nat.reduceMul, Int.reduceLE, Int.reduceLT, Int.reduceToNat, Nat.reduceLeDiff, Nat.reduceSub, Int.reduceEq, Nat.reduceBEq, evB, tyA, kf, e4, ht4, hl4]
                (repeat (with_reducible refine And.intro ?_ ?_; exact sdX))
                (repeat (first | refine awp_seq ?_ | refine awp_block ?_ | ((first | refine awp_skip ?_ | refine awp_exit ?_ | refine awp_reg ttok ?_ | (refine awp_draw ttok ?dr_calm ?_; (case dr_calm => decide +kernel)) | refine awp_condM ?_); simp (maxSteps := 4000000) only [↓reduceIte, Nat.reduceLT, Nat.reduceEqDiff, reduceCtorEq, Nat.reduceAdd, Nat.reduceMul, Int.reduceLE, Int.reduceLT, Int.reduceToNat, Nat.reduceLeDiff, Nat.reduceSub, Int.reduceEq, Nat.reduceBEq, evB, tyA, kf, e4, ht4, hl4]; (repeat (with_reducible refine And.intro ?_ ?_; exact sdX)); (with_reducible first | refine awp_id ?_ | refine id_call ?_ | refine id_and ?_ | refine id_ex ?_ | refine id_all ?_ | refine id_nat ?_ | refine id_le ?_))))
                refine callVC_scal fnok7 hSa rfl ?_
                simp (maxSteps := 4000000) only [↓reduceIte, Nat.reduceLT, Nat.reduceEqDiff, reduceCtorEq, Nat.reduceAdd, Nat.reduceMul, Int.reduceLE, Int.reduceLT, Int.reduceToNat, Nat.reduceLeDiff, Nat.reduceSub, Int.reduceEq, Nat.reduceBEq, evB, tyA]
                (repeat (with_reducible refine And.intro ?_ ?_; exact sdX))
                (repeat (first | refine awp_seq ?_ | refine awp_block ?_ | ((first | refine awp_skip ?_ | refine awp_exit ?_ | refine awp_reg ttok ?_ | (refine awp_draw ttok ?dr_calm ?_; (case dr_calm => decide +kernel)) | refine awp_condM ?_); simp (maxSteps := 4000000) only [↓reduceIte, Nat.reduceLT, Nat.reduceEqDiff, reduceCtorEq, Nat.reduceAdd, Nat.reduceMul, Int.reduceLE, Int.reduceLT, Int.reduceToNat, Nat.reduceLeDiff, Nat.reduceSub, Int.reduceEq, Nat.reduceBEq, evB, tyA]; (repeat (with_reducible refine And.intro ?_ ?_; exact sdX)); (with_reducible first | refine awp_id ?_ | refine id_call ?_ | refine id_and ?_ | refine id_ex ?_ | refine id_all ?_ | refine id_nat ?_ | refine id_le ?_))))
                refine callVC_scal fnok5 c_awake40 rfl ?_
                simp (maxSteps := 4000000) only [↓reduceIte, Nat.reduceLT, Nat.reduceEqDiff, reduceCtorEq, Nat.reduceAdd, Nat.reduceMul, Int.reduceLE, Int.reduceLT, Int.reduceToNat, Nat.reduceLeDiff, Nat.reduceSub, Int.reduceEq, Nat.reduceBEq, evB, tyA]
                (repeat (with_reducible refine And.intro ?_ ?_; exact sdX))
                refine callVC_scal fnok8 hC rfl ?_
                simp (maxSteps := 4000000) only [↓reduceIte, Nat.reduceLT, Nat.reduceEqDiff, reduceCtorEq, Nat.reduceAdd, Nat.reduceMul, Int.reduceLE, Int.reduceLT, Int.reduceToNat, Nat.reduceLeDiff, Nat.reduceSub, Int.reduceEq, Nat.reduceBEq, evB, tyA, k00]
                (repeat (with_reducible refine And.intro ?_ ?_; exact sdX))
                (repeat (first | refine awp_seq ?_ | refine awp_block ?_ | ((first | refine awp_skip ?_ | refine awp_exit ?_ | refine awp_reg ttok ?_ | (refine awp_draw ttok ?dr_calm ?_; (case dr_calm => decide +kernel)) | refine awp_condM ?_); simp (maxSteps := 4000000) only [↓reduceIte, Nat.reduceLT, Nat.reduceEqDiff, reduceCtorEq, Nat.reduceAdd, Nat.reduceMul, Int.reduceLE, Int.reduceLT, Int.reduceToNat, Nat.reduceLeDiff, Nat.reduceSub, Int.reduceEq, Nat.reduceBEq, evB, tyA]; (repeat (with_reducible refine And.intro ?_ ?_; exact sdX)); (with_reducible first | refine awp_id ?_ | refine id_call ?_ | refine id_and ?_ | refine id_ex ?_ | refine id_all ?_ | refine id_nat ?_ | refine id_le ?_))))
                exact awp_ret (ends_plain (.inr rfl) rfl evX)
              · have hb1 := hb1 rfl
                subst hb1
                have hC := c_Count false (bxs H T 9 0) 3 r (by rw [bxs_len]; decide) (fun b hb => by
                  obtain ⟨j, hj, rfl⟩ := List.mem_map.1 (show b ∈ bxs H T 9 0 from hb)
                  have := wayP_len H T j
                  have := hH j
                  have hj := List.mem_range.1 hj
                  rw [if_pos hj]
                  unfold bw
                  simp only; omega)
                rw [cnt_bxs] at hC
                have kf : (true != true) = false := rfl
                have kcc : (((wct H T 9 : Nat) : Int) == ((wct H T 9 : Nat) : Int)) = true := by simp
                have krr : ((r : Int) == (r : Int)) = true := by simp
                have hRo := c_Room false (bxs H T 9 0) 3 r
                (repeat (first | refine awp_seq ?_ | refine awp_block ?_ | ((first | refine awp_skip ?_ | refine awp_exit ?_ | refine awp_reg ttok ?_ | (refine awp_draw ttok ?dr_calm ?_; (case dr_calm => decide +kernel)) | refine awp_condM ?_); simp (maxSteps := 4000000) only [↓reduceIte, Nat.reduceLT, Nat.reduceEqDiff, reduceCtorEq, Nat.reduceAdd, Nat.reduceMul, Int.reduceLE, Int.reduceLT, Int.reduceToNat, Nat.reduceLeDiff, Nat.reduceSub, Int.reduceEq, Nat.reduceBEq, evB, tyA, d1]; (repeat (with_reducible refine And.intro ?_ ?_; exact sdX)); (with_reducible first | refine awp_id ?_ | refine id_call ?_ | refine id_and ?_ | refine id_ex ?_ | refine id_all ?_ | refine id_nat ?_ | refine id_le ?_))))
                refine callVC_mk fnok6 hSt rfl ?_
                simp (maxSteps := 4000000) only [↓reduceIte, Nat.reduceLT, Nat.reduceEqDiff, reduceCtorEq, Nat.reduceAdd, Nat.reduceMul, Int.reduceLE, Int.reduceLT, Int.reduceToNat, Nat.reduceLeDiff, Nat.reduceSub, Int.reduceEq, Nat.reduceBEq, evB, tyA, kf, e4, ht4, hl4]
                (repeat (with_reducible refine And.intro ?_ ?_; exact sdX))
                (repeat (first | refine awp_seq ?_ | refine awp_block ?_ | ((first | refine awp_skip ?_ | refine awp_exit ?_ | refine awp_reg ttok ?_ | (refine awp_draw ttok ?dr_calm ?_; (case dr_calm => decide +kernel)) | refine awp_condM ?_); simp (maxSteps := 4000000) only [↓reduceIte, Nat.reduceLT, Nat.reduceEqDiff, reduceCtorEq, Nat.reduceAdd, Nat.reduceMul, Int.reduceLE, Int.reduceLT, Int.reduceToNat, Nat.reduceLeDiff, Nat.reduceSub, Int.reduceEq, Nat.reduceBEq, evB, tyA, kf, e4, ht4, hl4]; (repeat (with_reducible refine And.intro ?_ ?_; exact sdX)); (with_reducible first | refine awp_id ?_ | refine id_call ?_ | refine id_and ?_ | refine id_ex ?_ | refine id_all ?_ | refine id_nat ?_ | refine id_le ?_))))
                refine callVC_scal fnok7 hSa rfl ?_
                simp (maxSteps := 4000000) only [↓reduceIte, Nat.reduceLT, Nat.reduceEqDiff, reduceCtorEq, Nat.reduceAdd, Nat.reduceMul, Int.reduceLE, Int.reduceLT, Int.reduceToNat, Nat.reduceLeDiff, Nat.reduceSub, Int.reduceEq, Nat.reduceBEq, evB, tyA]
                (repeat (with_reducible refine And.intro ?_ ?_; exact sdX))
                (repeat (first | refine awp_seq ?_ | refine awp_block ?_ | ((first | refine awp_skip ?_ | refine awp_exit ?_ | refine awp_reg ttok ?_ | (refine awp_draw ttok ?dr_calm ?_; (case dr_calm => decide +kernel)) | refine awp_condM ?_); simp (maxSteps := 4000000) only [↓reduceIte, Nat.reduceLT, Nat.reduceEqDiff, reduceCtorEq, Nat.reduceAdd, Nat.reduceMul, Int.reduceLE, Int.reduceLT, Int.reduceToNat, Nat.reduceLeDiff, Nat.reduceSub, Int.reduceEq, Nat.reduceBEq, evB, tyA]; (repeat (with_reducible refine And.intro ?_ ?_; exact sdX)); (with_reducible first | refine awp_id ?_ | refine id_call ?_ | refine id_and ?_ | refine id_ex ?_ | refine id_all ?_ | refine id_nat ?_ | refine id_le ?_))))
                refine awp_loop (X := Nat) (fun i => mkS 292 [(9, .own 7000 0 9), (20, i64 r), (21, .ptr 29006 0 0), (24, i64 (wct H T 9)), (27, i64 i)] [(7000, { sz := 1, rows := wys H T }), (29006, { sz := 3, rows := [[i64 ((3 : Nat) : Int), i64 r, .sl false (iss (bxs H T 9 0))]], flat := false })]) (fun i => i ≤ 9) (fun i => 9 - i) 0 (Nat.zero_le _) (mkS_le rfl ?_ ?_) ?_
                · simp (maxSteps := 4000000) only [↓reduceIte, Nat.reduceLT, Nat.reduceEqDiff, reduceCtorEq, Nat.reduceAdd, Nat.reduceMul, Int.reduceLE, Int.reduceLT, Int.reduceToNat, Nat.reduceLeDiff, Nat.reduceSub, Int.reduceEq, Nat.reduceBEq, evB]
                  try rfl
                · simp (maxSteps := 4000000) only [↓reduceIte, Nat.reduceLT, Nat.reduceEqDiff, reduceCtorEq, Nat.reduceAdd, Nat.reduceMul, Int.reduceLE, Int.reduceLT, Int.reduceToNat, Nat.reduceLeDiff, Nat.reduceSub, Int.reduceEq, Nat.reduceBEq, evB]
                  try rfl
                · intro i hi
                  by_cases hlt : i < 9
                  · have f1 : decide ((i : Int) < 9) = true := by simp; omega
                    have hwi : IntKind.i64.wrap ((i : Int) + 1) = ((i + 1 : Nat) : Int) := i64_in (by omega) (by omega)
                    have gw := wys_get (H := H) (T := T) hlt
                    obtain ⟨p, hp, hpw⟩ : ∃ p : Nat, p = i / 3 ∧ (i : Int).tdiv 3 = (p : Int) := ⟨i / 3, rfl, by rw [Int.tdiv_eq_ediv_of_nonneg (by omega)]; omega⟩
                    obtain ⟨q, hq, hqw⟩ : ∃ q : Nat, q = i % 3 ∧ (i : Int).tmod 3 = (q : Int) := ⟨i % 3, rfl, by rw [Int.tmod_eq_emod_of_nonneg (by omega)]; omega⟩
                    have hpq : p * 3 + q = i := by omega
                    have hcl := wayP_len H T i
                    have hHi := hH i
                    have hBx := c_Box false (bxs H T 9 0) 3 r p q i 9 _ (by decide) (by omega) (by omega) hpq (bxs_len H T 9 0) rfl (bxs_all H T hlt) (by unfold bw; simp only; omega)
                    have hb2 : (bw (wayP H T i)).2 = wayP H T i := rfl
                    rw [hb2] at hBx
                    have hSw := c_Same false false (wayP H T i) (wayP H T i) (by omega)
                    have kbw : (wayP H T i == wayP H T i) = true := by simp
                    rw [kbw] at hSw
                    have htw : List.take (wayP H T i).length (wayP H T i) = wayP H T i := List.take_length
                    have hpp : IntKind.i64.wrap (p : Int) = (p : Int) := i64_in (by omega) (by omega)
                    (repeat (first | refine awp_seq ?_ | refine awp_block ?_ | ((first | refine awp_skip ?_ | refine awp_exit ?_ | refine awp_reg ttok ?_ | (refine awp_draw ttok ?dr_calm ?_; (case dr_calm => decide +kernel)) | refine awp_condM ?_); simp (maxSteps := 4000000) only [↓reduceIte, Nat.reduceLT, Nat.reduceEqDiff, reduceCtorEq, Nat.reduceAdd, Nat.reduceMul, Int.reduceLE, Int.reduceLT, Int.reduceToNat, Nat.reduceLeDiff, Nat.reduceSub, Int.reduceEq, Nat.reduceBEq, evB, tyA, f1]; (repeat (with_reducible refine And.intro ?_ ?_; exact sdX)); (with_reducible first | refine awp_id ?_ | refine id_call ?_ | refine id_and ?_ | refine id_ex ?_ | refine id_all ?_ | refine id_nat ?_ | refine id_le ?_))))
                    refine awp_drawG ttok ((0, none) :: (1, none) :: (2, none) :: (3, none) :: (4, none) :: (6, none) :: (7, none) :: (8, none) :: (9, none) :: (5, some [6, 7, 8, 9]) :: (10, some []) :: (11, none) :: []) ([]) ([]) (by decide +kernel) fun O hO => ?_; simp only [OpsAre, Nat.reduceAdd, and_true, List.toList_toArray, List.append_eq, List.cons_append, List.nil_append] at hO; simp (maxSteps := 4000000) only [↓reduceIte, Nat.reduceLT, Nat.reduceEqDiff, reduceCtorEq, Nat.reduceAdd, Nat.reduceMul, Int.reduceLE, Int.reduceLT, Int.reduceToNat, Nat.reduceLeDiff, Nat.reduceSub, Int.reduceEq, Nat.reduceBEq, evB, tyA, hO, hpw, hqw, hpp, gw, wys_len]; (repeat (with_reducible refine And.intro ?_ ?_; exact sdX))
                    refine callVC_mk fnok9 hBx rfl ?_
                    simp (maxSteps := 4000000) only [↓reduceIte, Nat.reduceLT, Nat.reduceEqDiff, reduceCtorEq, Nat.reduceAdd, Nat.reduceMul, Int.reduceLE, Int.reduceLT, Int.reduceToNat, Nat.reduceLeDiff, Nat.reduceSub, Int.reduceEq, Nat.reduceBEq, evB, tyA, hO, hpw, hqw, hpp, gw, wys_len, ints_take, htw, ints_len]
                    (repeat (with_reducible refine And.intro ?_ ?_; exact sdX))
                    refine callVC_scal fnok7 hSw rfl ?_
                    simp (maxSteps := 4000000) only [↓reduceIte, Nat.reduceLT, Nat.reduceEqDiff, reduceCtorEq, Nat.reduceAdd, Nat.reduceMul, Int.reduceLE, Int.reduceLT, Int.reduceToNat, Nat.reduceLeDiff, Nat.reduceSub, Int.reduceEq, Nat.reduceBEq, evB, tyA, hO]
                    (repeat (with_reducible refine And.intro ?_ ?_; exact sdX))
                    (repeat (first | refine awp_seq ?_ | refine awp_block ?_ | ((first | refine awp_skip ?_ | refine awp_exit ?_ | refine awp_reg ttok ?_ | (refine awp_draw ttok ?dr_calm ?_; (case dr_calm => decide +kernel)) | refine awp_condM ?_); simp (maxSteps := 4000000) only [↓reduceIte, Nat.reduceLT, Nat.reduceEqDiff, reduceCtorEq, Nat.reduceAdd, Nat.reduceMul, Int.reduceLE, Int.reduceLT, Int.reduceToNat, Nat.reduceLeDiff, Nat.reduceSub, Int.reduceEq, Nat.reduceBEq, evB, tyA, hwi]; (repeat (with_reducible refine And.intro ?_ ?_; exact sdX)); (with_reducible first | refine awp_id ?_ | refine id_call ?_ | refine id_and ?_ | refine id_ex ?_ | refine id_all ?_ | refine id_nat ?_ | refine id_le ?_))))
                    refine ⟨i + 1, by omega, by omega, mkS_le rfl ?_ ?_⟩
                    · exact evX
                    · exact evX
                  · have f1 : decide ((i : Int) < 9) = false := by simp; omega
                    (repeat (first | refine awp_seq ?_ | refine awp_block ?_ | ((first | refine awp_skip ?_ | refine awp_exit ?_ | refine awp_reg ttok ?_ | (refine awp_draw ttok ?dr_calm ?_; (case dr_calm => decide +kernel)) | refine awp_condM ?_); simp (maxSteps := 4000000) only [↓reduceIte, Nat.reduceLT, Nat.reduceEqDiff, reduceCtorEq, Nat.reduceAdd, Nat.reduceMul, Int.reduceLE, Int.reduceLT, Int.reduceToNat, Nat.reduceLeDiff, Nat.reduceSub, Int.reduceEq, Nat.reduceBEq, evB, tyA, f1]; (repeat (with_reducible refine And.intro ?_ ?_; exact sdX)); (with_reducible first | refine awp_id ?_ | refine id_call ?_ | refine id_and ?_ | refine id_ex ?_ | refine id_all ?_ | refine id_nat ?_ | refine id_le ?_))))
                    refine callVC_scal fnok5 c_awake40 rfl ?_
                    simp (maxSteps := 4000000) only [↓reduceIte, Nat.reduceLT, Nat.reduceEqDiff, reduceCtorEq, Nat.reduceAdd, Nat.reduceMul, Int.reduceLE, Int.reduceLT, Int.reduceToNat, Nat.reduceLeDiff, Nat.reduceSub, Int.reduceEq, Nat.reduceBEq, evB, tyA]
                    (repeat (with_reducible refine And.intro ?_ ?_; exact sdX))
                    refine callVC_scal fnok8 hC rfl ?_
                    simp (maxSteps := 4000000) only [↓reduceIte, Nat.reduceLT, Nat.reduceEqDiff, reduceCtorEq, Nat.reduceAdd, Nat.reduceMul, Int.reduceLE, Int.reduceLT, Int.reduceToNat, Nat.reduceLeDiff, Nat.reduceSub, Int.reduceEq, Nat.reduceBEq, evB, tyA, kcc]
                    (repeat (with_reducible refine And.intro ?_ ?_; exact sdX))
                    refine callVC_scal fnok10 hRo rfl ?_
                    simp (maxSteps := 4000000) only [↓reduceIte, Nat.reduceLT, Nat.reduceEqDiff, reduceCtorEq, Nat.reduceAdd, Nat.reduceMul, Int.reduceLE, Int.reduceLT, Int.reduceToNat, Nat.reduceLeDiff, Nat.reduceSub, Int.reduceEq, Nat.reduceBEq, evB, tyA, krr]
                    (repeat (with_reducible refine And.intro ?_ ?_; exact sdX))
                    (repeat (first | refine awp_seq ?_ | refine awp_block ?_ | ((first | refine awp_skip ?_ | refine awp_exit ?_ | refine awp_reg ttok ?_ | (refine awp_draw ttok ?dr_calm ?_; (case dr_calm => decide +kernel)) | refine awp_condM ?_); simp (maxSteps := 4000000) only [↓reduceIte, Nat.reduceLT, Nat.reduceEqDiff, reduceCtorEq, Nat.reduceAdd, Nat.reduceMul, Int.reduceLE, Int.reduceLT, Int.reduceToNat, Nat.reduceLeDiff, Nat.reduceSub, Int.reduceEq, Nat.reduceBEq, evB, tyA]; (repeat (with_reducible refine And.intro ?_ ?_; exact sdX)); (with_reducible first | refine awp_id ?_ | refine id_call ?_ | refine id_and ?_ | refine id_ex ?_ | refine id_all ?_ | refine id_nat ?_ | refine id_le ?_))))
                    exact awp_ret (ends_plain (.inr rfl) rfl evX)
end Go.Proofs.Ytgjdgomkcdleiaa
