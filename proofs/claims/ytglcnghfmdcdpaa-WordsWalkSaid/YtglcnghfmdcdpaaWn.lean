import Derived.Test.YtglcnghfmdcdpaaSw
import Derived.Test.YtglcnghfmdcdpaaSl
import Derived.Test.YtglcnghfmdcdpaaLv
import Derived.Scope
import Derived.Test.YtglcnghfmdcdpaaTy
set_option linter.unusedSimpArgs false
set_option linter.unusedVariables false
namespace Go.Proofs.Ytglcnghfmdcdpaa
open Go.Ab
theorem nOk_22 : NOk 2 3 [[1, 2], [-1, 2], [-1, -1]] := ⟨rfl, by decide⟩
set_option maxRecDepth 20000 in
set_option maxHeartbeats 16000000 in
theorem c_awake22 : Contract Try.prog 6 [] (bo true) [] := by
  refine contract_of_awp (rs := [0]) Try.func6 rfl Try.ntmps6 (by simp) rfl fun E => ?_
  have h1 := c_All1 nOk_22 (by decide) ⟨by decide, by decide⟩ 0 (by decide) [false, false, true] rfl 5
  have v1 : fromL [false, false, true] [[1, 2], [-1, 2], [-1, -1]] (liveL [false, false, true] [[1, 2], [-1, 2], [-1, -1]]) (mostN 5) 0 [] = [[0, 1], [1]] := by decide
  rw [v1] at h1
  have h2 := c_SomeG 2 0 false false (bos [false, false, true]) (iis [[1, 2], [-1, 2], [-1, -1]]) 5 9 [[0, 1], [1]] h1 (by decide) (by decide)
  have v2 : List.take (9 : Int).toNat [[(0 : Int), 1], [1]] = [[0, 1], [1]] := rfl
  rw [v2] at h2
  (repeat (first | refine awp_seq ?_ | refine awp_block ?_ | ((first | refine awp_skip ?_ | refine awp_exit ?_ | refine awp_reg ttok ?_ | (refine awp_draw ttok ?dr_calm ?_; (case dr_calm => decide +kernel)) | refine awp_condM ?_); simp (maxSteps := 4000000) only [↓reduceIte, Nat.reduceLT, Nat.reduceEqDiff, reduceCtorEq, Nat.reduceAdd, Nat.reduceMul, Int.reduceLE, Int.reduceLT, Int.reduceToNat, Nat.reduceLeDiff, Nat.reduceSub, Int.reduceEq, Nat.reduceBEq, evB, tyA]; (repeat (with_reducible refine And.intro ?_ ?_; exact sdX)); (with_reducible first | refine awp_id ?_ | refine id_call ?_ | refine id_and ?_ | refine id_ex ?_ | refine id_all ?_ | refine id_nat ?_ | refine id_le ?_))))
  refine callVC_mk fnok13 h2 rfl ?_
  simp (maxSteps := 4000000) only [↓reduceIte, Nat.reduceLT, Nat.reduceEqDiff, reduceCtorEq, Nat.reduceAdd, Nat.reduceMul, Int.reduceLE, Int.reduceLT, Int.reduceToNat, Nat.reduceLeDiff, Nat.reduceSub, Int.reduceEq, Nat.reduceBEq, evB, tyA]
  (repeat (with_reducible refine And.intro ?_ ?_; exact sdX))
  have k0 : (((2 : Nat) : Int) == 2) = true := rfl
  have k1 : (((1 : Nat) : Int) == 1) = true := rfl
  have k2 : (iis [[(0 : Int), 1], [1]]).getD 0 [] = [.sl false (ints [0, 1])] := rfl
  have k3 : (iis [[(0 : Int), 1], [1]]).getD 1 [] = [.sl false (ints [1])] := rfl
  have k4 : (ints [1]).getD 0 [] = [i64 1] := rfl
  have k5 : ((1 : Int) == 1) = true := rfl
  (repeat (first | refine awp_seq ?_ | refine awp_block ?_ | ((first | refine awp_skip ?_ | refine awp_exit ?_ | refine awp_reg ttok ?_ | (refine awp_draw ttok ?dr_calm ?_; (case dr_calm => decide +kernel)) | refine awp_condM ?_); simp (maxSteps := 4000000) only [↓reduceIte, Nat.reduceLT, Nat.reduceEqDiff, reduceCtorEq, Nat.reduceAdd, Nat.reduceMul, Int.reduceLE, Int.reduceLT, Int.reduceToNat, Nat.reduceLeDiff, Nat.reduceSub, Int.reduceEq, Nat.reduceBEq, evB, tyA, k0, k1, k2, k3, k4, k5, iis_len, ints_len, List.length_cons, List.length_nil]; (repeat (with_reducible refine And.intro ?_ ?_; exact sdX)); (with_reducible first | refine awp_id ?_ | refine id_call ?_ | refine id_and ?_ | refine id_ex ?_ | refine id_all ?_ | refine id_nat ?_ | refine id_le ?_))))
  exact awp_ret (ends_plain (.inr rfl) rfl evX)
end Go.Proofs.Ytglcnghfmdcdpaa
namespace Go.Ab
variable {P : Program} {E : Ent} {st : St}
def noGoA (Q : Exit → St → Prop) : Exit → St → Prop
  | .goto _, _ => False
  | e, st => Q e st
theorem awp_scope {Q : Exit → St → Prop} {c : Code} (h : AWP P E c (noGoA Q) st) : AWP P E (.scope c) Q st := by
  intro a w hR
  refine wp_scope_straight (wp_mono (h a w hR) fun e a' w' ⟨s, q, r⟩ => ?_)
  cases e with
  | goto l => exact q.elim
  | _ => exact ⟨s, q, r⟩
end Go.Ab
namespace Go.Proofs.Ytglcnghfmdcdpaa
open Go.Ab
theorem c_End1 (f : Bool) (D : List Int) (n t : Int) (ht : t < (D.length : Int)) : Contract Try.prog 24 [i64 t, .ref [.sl f (ints D)] 0, .ref [i64 n] 0] (bo (decide (t ≥ 0) && (D.getD t.toNat 0 == n))) [] := by
  refine contract_of_awp (rs := [4]) Try.func24 rfl Try.ntmps24 (by simp) rfl fun E => ?_
  by_cases h0 : t ≥ 0
  · obtain ⟨t, rfl⟩ := Int.eq_ofNat_of_zero_le h0
    have d1 : decide ((t : Int) ≥ 0) = true := by simp
    have g := ints_get (l := D) (i := t) (by omega)
    (repeat (first | refine awp_seq ?_ | refine awp_block ?_ | ((first | refine awp_skip ?_ | refine awp_exit ?_ | refine awp_reg ttok ?_ | (refine awp_draw ttok ?dr_calm ?_; (case dr_calm => decide +kernel)) | refine awp_condM ?_); simp (maxSteps := 4000000) only [↓reduceIte, Nat.reduceLT, Nat.reduceEqDiff, reduceCtorEq, Nat.reduceAdd, Nat.reduceMul, Int.reduceLE, Int.reduceLT, Int.reduceToNat, Nat.reduceLeDiff, Nat.reduceSub, Int.reduceEq, Nat.reduceBEq, evB, tyA, d1, g, ints_len]; (repeat (with_reducible refine And.intro ?_ ?_; exact sdX)); (with_reducible first | refine awp_id ?_ | refine id_call ?_ | refine id_and ?_ | refine id_ex ?_ | refine id_all ?_ | refine id_nat ?_ | refine id_le ?_))))
    refine awp_ret (ends_plain (.inr rfl) rfl ?_)
    simp (maxSteps := 4000000) only [↓reduceIte, Nat.reduceLT, Nat.reduceEqDiff, reduceCtorEq, Nat.reduceAdd, Nat.reduceMul, Int.reduceLE, Int.reduceLT, Int.reduceToNat, Nat.reduceLeDiff, Nat.reduceSub, Int.reduceEq, Nat.reduceBEq, evB, d1, Int.toNat_natCast, Bool.true_and]
  · have d1 : decide (t ≥ 0) = false := by simpa using h0
    (repeat (first | refine awp_seq ?_ | refine awp_block ?_ | ((first | refine awp_skip ?_ | refine awp_exit ?_ | refine awp_reg ttok ?_ | (refine awp_draw ttok ?dr_calm ?_; (case dr_calm => decide +kernel)) | refine awp_condM ?_); simp (maxSteps := 4000000) only [↓reduceIte, Nat.reduceLT, Nat.reduceEqDiff, reduceCtorEq, Nat.reduceAdd, Nat.reduceMul, Int.reduceLE, Int.reduceLT, Int.reduceToNat, Nat.reduceLeDiff, Nat.reduceSub, Int.reduceEq, Nat.reduceBEq, evB, tyA, d1]; (repeat (with_reducible refine And.intro ?_ ?_; exact sdX)); (with_reducible first | refine awp_id ?_ | refine id_call ?_ | refine id_and ?_ | refine id_ex ?_ | refine id_all ?_ | refine id_nat ?_ | refine id_le ?_))))
    refine awp_ret (ends_plain (.inr rfl) rfl ?_)
    simp (maxSteps := 4000000) only [↓reduceIte, Nat.reduceLT, Nat.reduceEqDiff, reduceCtorEq, Nat.reduceAdd, Nat.reduceMul, Int.reduceLE, Int.reduceLT, Int.reduceToNat, Nat.reduceLeDiff, Nat.reduceSub, Int.reduceEq, Nat.reduceBEq, evB, d1, Bool.false_and]
def mapR {α : Type} (k : Nat) (g : Nat → α) : List α := (List.range k).map g
theorem mapR_len {α : Type} (k : Nat) (g : Nat → α) : (mapR k g).length = k := by simp [mapR]
theorem mapR_get {α : Type} {k : Nat} {g : Nat → α} {i : Nat} (h : i < k) (d : α) : (mapR k g).getD i d = g i := by
  simp [mapR, List.getD, h]
theorem mapR_congr {α : Type} {k : Nat} {g g' : Nat → α} (h : ∀ i, i < k → g i = g' i) : mapR k g = mapR k g' := List.map_congr_left fun i hi => h i (List.mem_range.1 hi)
theorem mapR_set {α : Type} {k : Nat} {g g' : Nat → α} {i : Nat} {v : α} (h : i < k) (hv : g' i = v) (hg : ∀ j, j ≠ i → g' j = g j) : (mapR k g).set i v = mapR k g' := by
  refine List.ext_getElem (by simp [mapR]) fun j h1 h2 => ?_
  rw [List.getElem_set]
  simp only [mapR, List.getElem_map, List.getElem_range]
  split
  · rename_i e; subst e; exact hv.symm
  · rename_i e; exact (hg j (fun q => e q.symm)).symm
def d0P (F : List Bool) (N : List (List Int)) (k i : Nat) : List Int := mapR k fun s => if s < i then dst F N 0 s else 0
def dP (F : List Bool) (N : List (List Int)) (k n i : Nat) : List Int := mapR k fun s => if s < i then dst F N (n + 1) s else dst F N n s
theorem d0P_zero (F : List Bool) (N : List (List Int)) (k : Nat) : List.replicate k 0 = d0P F N k 0 := by
  simp only [d0P, mapR, Nat.not_lt_zero, if_false]
  rw [List.map_const', List.length_range]
theorem d0P_all (F : List Bool) (N : List (List Int)) (k : Nat) : d0P F N k k = dP F N k 0 0 := mapR_congr fun i hi => by rw [if_pos hi, if_neg (by omega)]
theorem dP_all (F : List Bool) (N : List (List Int)) (k n : Nat) : dP F N k n k = dP F N k (n + 1) 0 := mapR_congr fun i hi => by rw [if_pos hi, if_neg (by omega)]
theorem d0P_set {F : List Bool} {N : List (List Int)} {k i : Nat} (h : i < k) : ((d0P F N k i).set i (-1)).set i 0 = (d0P F N k i).set i 0 := by simp
theorem d0P_yes {F : List Bool} {N : List (List Int)} {k i : Nat} (h : i < k) (hf : F.getD i false = true) : (d0P F N k i).set i 0 = d0P F N k (i + 1) := by
  refine mapR_set h (by rw [if_pos (by omega), dst, if_pos hf]) fun j hj => ?_
  by_cases q : j < i
  · rw [if_pos q, if_pos (by omega)]
  · rw [if_neg q, if_neg (by omega)]
theorem d0P_no {F : List Bool} {N : List (List Int)} {k i : Nat} (h : i < k) (hf : F.getD i false = false) : (d0P F N k i).set i (-1) = d0P F N k (i + 1) := by
  refine mapR_set h (by rw [if_pos (by omega), dst, if_neg (by rw [hf]; simp)]) fun j hj => ?_
  by_cases q : j < i
  · rw [if_pos q, if_pos (by omega)]
  · rw [if_neg q, if_neg (by omega)]
theorem dP_get {F : List Bool} {N : List (List Int)} {k n i s : Nat} (hs : s < k) : (dP F N k n i).getD s 0 = if s < i then dst F N (n + 1) s else dst F N n s := mapR_get hs 0
theorem dst_eqn {L k : Nat} {N : List (List Int)} (h : NOk L k N) {F : List Bool} {n s : Nat} (hs : s < k) : (dst F N (n + 1) s == (n : Int)) = (dst F N n s == (n : Int)) := by
  rw [dst]
  split
  · rename_i q
    rw [Bool.and_eq_true, decide_eq_true_eq] at q
    have e1 : ((((n + 1 : Nat) : Int)) == (n : Int)) = false := by simp; omega
    have e2 : (dst F N n s == (n : Int)) = false := by simp; omega
    rw [e1, e2]
  · rfl
theorem dP_any {L k : Nat} {N : List (List Int)} (h : NOk L k N) {F : List Bool} {n i s : Nat} (hs : s < k) : ((N.getD s []).any fun t => decide (t ≥ 0) && ((dP F N k n i).getD t.toNat 0 == (n : Int))) = (N.getD s []).any fun t => decide (t ≥ 0) && (dst F N n t.toNat == (n : Int)) := by
  have g := h.get hs
  have : ∀ l : List Int, (∀ t ∈ l, -1 ≤ t ∧ t < (k : Int)) → (l.any fun t => decide (t ≥ 0) && ((dP F N k n i).getD t.toNat 0 == (n : Int))) = l.any fun t => decide (t ≥ 0) && (dst F N n t.toNat == (n : Int)) := by
    intro l hl
    induction l with
    | nil => rfl
    | cons t l ih =>
      rw [List.any_cons, List.any_cons, ih fun x hx => hl x (List.mem_cons_of_mem _ hx)]
      have ht := hl t List.mem_cons_self
      by_cases h0 : t ≥ 0
      · rw [dP_get (by omega)]
        by_cases q : t.toNat < i
        · rw [if_pos q, dst_eqn h (by omega)]
        · rw [if_neg q]
      · rw [show decide (t ≥ 0) = false by simpa using h0]; simp
  exact this _ g.2
theorem dP_yes {F : List Bool} {N : List (List Int)} {k n i : Nat} (h : i < k) (hc : (decide (dst F N n i < 0) && (N.getD i []).any fun t => decide (t ≥ 0) && (dst F N n t.toNat == (n : Int))) = true) : (dP F N k n i).set i ((n + 1 : Nat) : Int) = dP F N k n (i + 1) := by
  refine mapR_set h (by rw [if_pos (by omega), dst, if_pos hc]) fun j hj => ?_
  by_cases q : j < i
  · rw [if_pos q, if_pos (by omega)]
  · rw [if_neg q, if_neg (by omega)]
theorem dP_no {F : List Bool} {N : List (List Int)} {k n i : Nat} (h : i < k) (hc : (decide (dst F N n i < 0) && (N.getD i []).any fun t => decide (t ≥ 0) && (dst F N n t.toNat == (n : Int))) = false) : dP F N k n i = dP F N k n (i + 1) := by
  refine mapR_congr fun j hj => ?_
  by_cases q : j < i
  · rw [if_pos q, if_pos (by omega)]
  · rw [if_neg q]
    by_cases q2 : j < i + 1
    · rw [if_pos q2, dst, show j = i by omega, if_neg (by rw [hc]; simp)]
    · rw [if_neg q2]
set_option maxRecDepth 20000 in
set_option maxHeartbeats 16000000 in
theorem c_End {L k : Nat} {N : List (List Int)} (h : NOk L k N) (hL : L ≤ 1000) (hk : 1 ≤ k ∧ k ≤ 2000) (st : Nat) (hst : st < k) (F : List Bool) (hF : F.length = k) (s : Nat) (hs : s < k) :
    Contract Try.prog 14 [dfaD L st F N, i64 s] (if dst F N k s < 0 then .tup [.sl true [], bo false] else .tup [.sl false (ints (endF (dst F N k) N (dst F N k s).toNat s)), bo true]) [] := by
  refine contract_of_awp (rs := [4, 5]) Try.func14 rfl Try.ntmps14 (by simp) rfl fun E => ?_
  have hMay := c_May h st hst F hF (by omega) hk
  have hl := h.len
  have d1 : decide ((s : Int) < 0) = false := by simp
  have d2 : decide ((s : Int) ≥ (k : Int)) = false := by simpa using hs
  (repeat (first | refine awp_seq ?_ | refine awp_block ?_ | ((first | refine awp_skip ?_ | refine awp_exit ?_ | refine awp_reg ttok ?_ | (refine awp_draw ttok ?dr_calm ?_; (case dr_calm => decide +kernel)) | refine awp_condM ?_); simp (maxSteps := 4000000) only [↓reduceIte, Nat.reduceLT, Nat.reduceEqDiff, reduceCtorEq, Nat.reduceAdd, Nat.reduceMul, Int.reduceLE, Int.reduceLT, Int.reduceToNat, Nat.reduceLeDiff, Nat.reduceSub, Int.reduceEq, Nat.reduceBEq, evB, tyA, dfaD]; (repeat (with_reducible refine And.intro ?_ ?_; exact sdX)); (with_reducible first | refine awp_id ?_ | refine id_call ?_ | refine id_and ?_ | refine id_ex ?_ | refine id_all ?_ | refine id_nat ?_ | refine id_le ?_))))
  refine awp_scope ?_
  (repeat (first | refine awp_seq ?_ | refine awp_block ?_ | ((first | refine awp_skip ?_ | refine awp_exit ?_ | refine awp_reg ttok ?_ | (refine awp_draw ttok ?dr_calm ?_; (case dr_calm => decide +kernel)) | refine awp_condM ?_); simp (maxSteps := 4000000) only [↓reduceIte, Nat.reduceLT, Nat.reduceEqDiff, reduceCtorEq, Nat.reduceAdd, Nat.reduceMul, Int.reduceLE, Int.reduceLT, Int.reduceToNat, Nat.reduceLeDiff, Nat.reduceSub, Int.reduceEq, Nat.reduceBEq, evB, tyA]; (repeat (with_reducible refine And.intro ?_ ?_; exact sdX)); (with_reducible first | refine awp_id ?_ | refine id_call ?_ | refine id_and ?_ | refine id_ex ?_ | refine id_all ?_ | refine id_nat ?_ | refine id_le ?_))))
  refine callVC_scal fnok20 hMay rfl ?_
  simp (maxSteps := 4000000) only [↓reduceIte, Nat.reduceLT, Nat.reduceEqDiff, reduceCtorEq, Nat.reduceAdd, Nat.reduceMul, Int.reduceLE, Int.reduceLT, Int.reduceToNat, Nat.reduceLeDiff, Nat.reduceSub, Int.reduceEq, Nat.reduceBEq, evB, tyA, d1, d2, iis_len, hl]
  (repeat (with_reducible refine And.intro ?_ ?_; exact sdX))
  have n0 : List.replicate (k : Int).toNat [D.v (Value.int IntKind.i64 0)] = ints (List.replicate k 0) := by simp [ints]
  (repeat (first | refine awp_seq ?_ | refine awp_block ?_ | ((first | refine awp_skip ?_ | refine awp_exit ?_ | refine awp_reg ttok ?_ | (refine awp_draw ttok ?dr_calm ?_; (case dr_calm => decide +kernel)) | refine awp_condM ?_); simp (maxSteps := 4000000) only [↓reduceIte, Nat.reduceLT, Nat.reduceEqDiff, reduceCtorEq, Nat.reduceAdd, Nat.reduceMul, Int.reduceLE, Int.reduceLT, Int.reduceToNat, Nat.reduceLeDiff, Nat.reduceSub, Int.reduceEq, Nat.reduceBEq, evB, tyA, d1, d2, iis_len, hl, n0]; (repeat (with_reducible refine And.intro ?_ ?_; exact sdX)); (with_reducible first | refine awp_id ?_ | refine id_call ?_ | refine id_and ?_ | refine id_ex ?_ | refine id_all ?_ | refine id_nat ?_ | refine id_le ?_))))
  refine awp_loop (X := Nat) (fun i => mkS 124 [(1, i64 s), (2, .ptr 1000 0 0), (6, .ptr 4004 0 0), (34, i64 k), (35, i64 i)] [(1000, { sz := 4, rows := [[i64 L, i64 st, .sl false (bos F), .sl false (iis N)]], flat := false }), (4004, { sz := 1, rows := [[.own 4003 0 k]], flat := false }), (4003, { sz := 1, rows := ints (d0P F N k i) })]) (fun i => i ≤ k) (fun i => k - i) 0 (by omega) (mkS_le rfl ?_ ?_) ?_
  · simp (maxSteps := 4000000) only [↓reduceIte, Nat.reduceLT, Nat.reduceEqDiff, reduceCtorEq, Nat.reduceAdd, Nat.reduceMul, Int.reduceLE, Int.reduceLT, Int.reduceToNat, Nat.reduceLeDiff, Nat.reduceSub, Int.reduceEq, Nat.reduceBEq, evB]
    try rfl
  · have n1 : List.replicate k (List.map ofAtom (Value.int IntKind.i64 0).cells.toList) = ints (List.replicate k 0) := by
      rw [show List.map ofAtom (Value.int IntKind.i64 0).cells.toList = [D.v (Value.int IntKind.i64 0)] from rfl]; simp [ints]
    simp (maxSteps := 4000000) only [↓reduceIte, Nat.reduceLT, Nat.reduceEqDiff, reduceCtorEq, Nat.reduceAdd, Nat.reduceMul, Int.reduceLE, Int.reduceLT, Int.reduceToNat, Nat.reduceLeDiff, Nat.reduceSub, Int.reduceEq, Nat.reduceBEq, evB, ← d0P_zero, n1]
    repeat' (first | rfl | apply And.intro)
  · intro i hi
    have hdl : (d0P F N k i).length = k := mapR_len _ _
    by_cases hlt : i < k
    · have d3 : decide ((i : Int) < (k : Int)) = true := by simpa using hlt
      have w1 : IntKind.i64.wrap ((i : Int) + 1) = ((i + 1 : Nat) : Int) := i64_in (by omega) (by omega)
      have gF := bos_get (l := F) (i := i) (by omega)
      have gd : (ints (d0P F N k i)).getD i [] = [i64 ((d0P F N k i).getD i 0)] := ints_get (by omega)
      have hs1 : (ints (d0P F N k i)).set i [D.v (Value.int IntKind.i64 (-1))] = ints ((d0P F N k i).set i (-1)) := by simp [ints]
      have hs2 : (ints ((d0P F N k i).set i (-1))).set i [D.v (Value.int IntKind.i64 0)] = ints ((d0P F N k i).set i 0) := by simp [ints]
      have gd2 : (ints ((d0P F N k i).set i (-1))).getD i [] = [i64 (((d0P F N k i).set i (-1)).getD i 0)] := ints_get (by rw [List.length_set]; omega)
      cases hf : F.getD i false
      · rw [hf] at gF
        (repeat (first | refine awp_seq ?_ | refine awp_block ?_ | ((first | refine awp_skip ?_ | refine awp_exit ?_ | refine awp_reg ttok ?_ | (refine awp_draw ttok ?dr_calm ?_; (case dr_calm => decide +kernel)) | refine awp_condM ?_); simp (maxSteps := 4000000) only [↓reduceIte, Nat.reduceLT, Nat.reduceEqDiff, reduceCtorEq, Nat.reduceAdd, Nat.reduceMul, Int.reduceLE, Int.reduceLT, Int.reduceToNat, Nat.reduceLeDiff, Nat.reduceSub, Int.reduceEq, Nat.reduceBEq, evB, tyA, d3, gF, gd, hs1, bos_len, hF, ints_len, hdl, w1]; (repeat (with_reducible refine And.intro ?_ ?_; exact sdX)); (with_reducible first | refine awp_id ?_ | refine id_call ?_ | refine id_and ?_ | refine id_ex ?_ | refine id_all ?_ | refine id_nat ?_ | refine id_le ?_))))
        refine ⟨i + 1, by omega, by omega, mkS_le rfl ?_ ?_⟩
        · exact evX
        · simp (maxSteps := 4000000) only [↓reduceIte, Nat.reduceLT, Nat.reduceEqDiff, reduceCtorEq, Nat.reduceAdd, Nat.reduceMul, Int.reduceLE, Int.reduceLT, Int.reduceToNat, Nat.reduceLeDiff, Nat.reduceSub, Int.reduceEq, Nat.reduceBEq, evB, hs1, d0P_no hlt hf]
      · rw [hf] at gF
        (repeat (first | refine awp_seq ?_ | refine awp_block ?_ | ((first | refine awp_skip ?_ | refine awp_exit ?_ | refine awp_reg ttok ?_ | (refine awp_draw ttok ?dr_calm ?_; (case dr_calm => decide +kernel)) | refine awp_condM ?_); simp (maxSteps := 4000000) only [↓reduceIte, Nat.reduceLT, Nat.reduceEqDiff, reduceCtorEq, Nat.reduceAdd, Nat.reduceMul, Int.reduceLE, Int.reduceLT, Int.reduceToNat, Nat.reduceLeDiff, Nat.reduceSub, Int.reduceEq, Nat.reduceBEq, evB, tyA, d3, gF, gd, hs1, hs2, bos_len, hF, ints_len, hdl, w1, List.length_set]; (repeat (with_reducible refine And.intro ?_ ?_; exact sdX)); (with_reducible first | refine awp_id ?_ | refine id_call ?_ | refine id_and ?_ | refine id_ex ?_ | refine id_all ?_ | refine id_nat ?_ | refine id_le ?_))))
        refine ⟨i + 1, by omega, by omega, mkS_le rfl ?_ ?_⟩
        · exact evX
        · simp (maxSteps := 4000000) only [↓reduceIte, Nat.reduceLT, Nat.reduceEqDiff, reduceCtorEq, Nat.reduceAdd, Nat.reduceMul, Int.reduceLE, Int.reduceLT, Int.reduceToNat, Nat.reduceLeDiff, Nat.reduceSub, Int.reduceEq, Nat.reduceBEq, evB, hs1, gd2, List.drop_succ_cons, List.drop_nil, hs2, d0P_set hlt, d0P_yes hlt hf]
    · have d3 : decide ((i : Int) < (k : Int)) = false := by simpa using hlt
      obtain rfl : k = i := by omega
      (repeat (first | refine awp_seq ?_ | refine awp_block ?_ | ((first | refine awp_skip ?_ | refine awp_exit ?_ | refine awp_reg ttok ?_ | (refine awp_draw ttok ?dr_calm ?_; (case dr_calm => decide +kernel)) | refine awp_condM ?_); simp (maxSteps := 4000000) only [↓reduceIte, Nat.reduceLT, Nat.reduceEqDiff, reduceCtorEq, Nat.reduceAdd, Nat.reduceMul, Int.reduceLE, Int.reduceLT, Int.reduceToNat, Nat.reduceLeDiff, Nat.reduceSub, Int.reduceEq, Nat.reduceBEq, evB, tyA, d3, iis_len, hl]; (repeat (with_reducible refine And.intro ?_ ?_; exact sdX)); (with_reducible first | refine awp_id ?_ | refine id_call ?_ | refine id_and ?_ | refine id_ex ?_ | refine id_all ?_ | refine id_nat ?_ | refine id_le ?_))))
      refine awp_loop (X := Nat) (fun n => mkS 124 [(1, i64 s), (2, .ptr 1000 0 0), (6, .ptr 4004 0 0), (52, i64 k), (53, i64 n)] [(1000, { sz := 4, rows := [[i64 L, i64 st, .sl false (bos F), .sl false (iis N)]], flat := false }), (4004, { sz := 1, rows := [[.own 4003 0 k]], flat := false }), (4003, { sz := 1, rows := ints (dP F N k n 0) })]) (fun n => n ≤ k) (fun n => k - n) 0 (by omega) (mkS_le rfl ?_ ?_) ?_
      · simp (maxSteps := 4000000) only [↓reduceIte, Nat.reduceLT, Nat.reduceEqDiff, reduceCtorEq, Nat.reduceAdd, Nat.reduceMul, Int.reduceLE, Int.reduceLT, Int.reduceToNat, Nat.reduceLeDiff, Nat.reduceSub, Int.reduceEq, Nat.reduceBEq, evB]
        try rfl
      · simp (maxSteps := 4000000) only [↓reduceIte, Nat.reduceLT, Nat.reduceEqDiff, reduceCtorEq, Nat.reduceAdd, Nat.reduceMul, Int.reduceLE, Int.reduceLT, Int.reduceToNat, Nat.reduceLeDiff, Nat.reduceSub, Int.reduceEq, Nat.reduceBEq, evB, d0P_all]
      · intro n hn
        by_cases hlt : n < k
        · have d4 : decide ((n : Int) < (k : Int)) = true := by simpa using hlt
          have w2 : IntKind.i64.wrap ((n : Int) + 1) = ((n + 1 : Nat) : Int) := i64_in (by omega) (by omega)
          (repeat (first | refine awp_seq ?_ | refine awp_block ?_ | ((first | refine awp_skip ?_ | refine awp_exit ?_ | refine awp_reg ttok ?_ | (refine awp_draw ttok ?dr_calm ?_; (case dr_calm => decide +kernel)) | refine awp_condM ?_); simp (maxSteps := 4000000) only [↓reduceIte, Nat.reduceLT, Nat.reduceEqDiff, reduceCtorEq, Nat.reduceAdd, Nat.reduceMul, Int.reduceLE, Int.reduceLT, Int.reduceToNat, Nat.reduceLeDiff, Nat.reduceSub, Int.reduceEq, Nat.reduceBEq, evB, tyA, d4, iis_len, hl]; (repeat (with_reducible refine And.intro ?_ ?_; exact sdX)); (with_reducible first | refine awp_id ?_ | refine id_call ?_ | refine id_and ?_ | refine id_ex ?_ | refine id_all ?_ | refine id_nat ?_ | refine id_le ?_))))
          refine awp_loop (X := Nat) (fun i => mkS 124 [(1, i64 s), (2, .ptr 1000 0 0), (6, .ptr 4004 0 0), (8, .ptr 14001 0 0), (52, i64 k), (53, i64 n), (57, .sl false (iis N)), (58, i64 k), (59, i64 i)] [(1000, { sz := 4, rows := [[i64 L, i64 st, .sl false (bos F), .sl false (iis N)]], flat := false }), (4004, { sz := 1, rows := [[.own 4003 0 k]], flat := false }), (4003, { sz := 1, rows := ints (dP F N k n i) }), (14001, { sz := 1, rows := [[i64 n]], flat := false })]) (fun i => i ≤ k) (fun i => k - i) 0 (by omega) (mkS_le rfl ?_ ?_) ?_
          · simp (maxSteps := 4000000) only [↓reduceIte, Nat.reduceLT, Nat.reduceEqDiff, reduceCtorEq, Nat.reduceAdd, Nat.reduceMul, Int.reduceLE, Int.reduceLT, Int.reduceToNat, Nat.reduceLeDiff, Nat.reduceSub, Int.reduceEq, Nat.reduceBEq, evB]
            try rfl
          · simp (maxSteps := 4000000) only [↓reduceIte, Nat.reduceLT, Nat.reduceEqDiff, reduceCtorEq, Nat.reduceAdd, Nat.reduceMul, Int.reduceLE, Int.reduceLT, Int.reduceToNat, Nat.reduceLeDiff, Nat.reduceSub, Int.reduceEq, Nat.reduceBEq, evB]
            try rfl
          · intro i hi
            have hdl : (dP F N k n i).length = k := mapR_len _ _
            by_cases hli : i < k
            · have d5 : decide ((i : Int) < (k : Int)) = true := by simpa using hli
              have w3 : IntKind.i64.wrap ((i : Int) + 1) = ((i + 1 : Nat) : Int) := i64_in (by omega) (by omega)
              have gN := iis_get (l := N) (i := i) (by omega)
              have gd : (ints (dP F N k n i)).getD i [] = [i64 (dst F N n i)] := by
                rw [ints_get (by omega), dP_get hli, if_neg (by omega)]
              have hno := dP_no (F := F) (N := N) (n := n) hli
              have hyes := dP_yes (F := F) (N := N) (n := n) hli
              have hany := dP_any h (F := F) (n := n) (i := i) hli
              have hct := c_CtI2 24 [.sl false (ints (dP F N k n i))] [i64 n] fnok24 (fun t => decide (t ≥ 0) && ((dP F N k n i).getD t.toNat 0 == (n : Int))) false (N.getD i []) (by rw [(h.get hli).1]; omega)
                (fun x hx => c_End1 false (dP F N k n i) n x (by rw [hdl]; exact ((h.get hli).2 x hx).2))
              rw [hany] at hct
              have htk : List.take k (dP F N k n i) = dP F N k n i := List.take_of_length_le (by omega)
              by_cases hneg : dst F N n i < 0
              · have d6 : decide (dst F N n i < 0) = true := by simpa using hneg
                (repeat (first | refine awp_seq ?_ | refine awp_block ?_ | ((first | refine awp_skip ?_ | refine awp_exit ?_ | refine awp_reg ttok ?_ | (refine awp_draw ttok ?dr_calm ?_; (case dr_calm => decide +kernel)) | refine awp_condM ?_); simp (maxSteps := 4000000) only [↓reduceIte, Nat.reduceLT, Nat.reduceEqDiff, reduceCtorEq, Nat.reduceAdd, Nat.reduceMul, Int.reduceLE, Int.reduceLT, Int.reduceToNat, Nat.reduceLeDiff, Nat.reduceSub, Int.reduceEq, Nat.reduceBEq, evB, tyA, d5, gN, gd, d6, ints_len, iis_len, hl, hdl, ints_take, htk]; (repeat (with_reducible refine And.intro ?_ ?_; exact sdX)); (with_reducible first | refine awp_id ?_ | refine id_call ?_ | refine id_and ?_ | refine id_ex ?_ | refine id_all ?_ | refine id_nat ?_ | refine id_le ?_))))
                refine callVC_scal fnok23 hct rfl ?_
                simp (maxSteps := 4000000) only [↓reduceIte, Nat.reduceLT, Nat.reduceEqDiff, reduceCtorEq, Nat.reduceAdd, Nat.reduceMul, Int.reduceLE, Int.reduceLT, Int.reduceToNat, Nat.reduceLeDiff, Nat.reduceSub, Int.reduceEq, Nat.reduceBEq, evB, tyA, d5, gN, gd, d6, ints_len, iis_len, hl, hdl, ints_take, htk]
                (repeat (with_reducible refine And.intro ?_ ?_; exact sdX))
                have hs3 : (ints (dP F N k n i)).set i [D.v (Value.int IntKind.i64 ((n + 1 : Nat) : Int))] = ints ((dP F N k n i).set i ((n + 1 : Nat) : Int)) := by simp [ints]
                cases hb : (N.getD i []).any fun t => decide (t ≥ 0) && (dst F N n t.toNat == (n : Int))
                · rw [hb, Bool.and_false] at hno
                  (repeat (first | refine awp_seq ?_ | refine awp_block ?_ | ((first | refine awp_skip ?_ | refine awp_exit ?_ | refine awp_reg ttok ?_ | (refine awp_draw ttok ?dr_calm ?_; (case dr_calm => decide +kernel)) | refine awp_condM ?_); simp (maxSteps := 4000000) only [↓reduceIte, Nat.reduceLT, Nat.reduceEqDiff, reduceCtorEq, Nat.reduceAdd, Nat.reduceMul, Int.reduceLE, Int.reduceLT, Int.reduceToNat, Nat.reduceLeDiff, Nat.reduceSub, Int.reduceEq, Nat.reduceBEq, evB, tyA, w3]; (repeat (with_reducible refine And.intro ?_ ?_; exact sdX)); (with_reducible first | refine awp_id ?_ | refine id_call ?_ | refine id_and ?_ | refine id_ex ?_ | refine id_all ?_ | refine id_nat ?_ | refine id_le ?_))))
                  refine ⟨i + 1, by omega, by omega, mkS_le rfl ?_ ?_⟩
                  · exact evX
                  · simp (maxSteps := 4000000) only [↓reduceIte, Nat.reduceLT, Nat.reduceEqDiff, reduceCtorEq, Nat.reduceAdd, Nat.reduceMul, Int.reduceLE, Int.reduceLT, Int.reduceToNat, Nat.reduceLeDiff, Nat.reduceSub, Int.reduceEq, Nat.reduceBEq, evB, ← hno rfl]
                · rw [hb, Bool.and_true] at hyes
                  (repeat (first | refine awp_seq ?_ | refine awp_block ?_ | ((first | refine awp_skip ?_ | refine awp_exit ?_ | refine awp_reg ttok ?_ | (refine awp_draw ttok ?dr_calm ?_; (case dr_calm => decide +kernel)) | refine awp_condM ?_); simp (maxSteps := 4000000) only [↓reduceIte, Nat.reduceLT, Nat.reduceEqDiff, reduceCtorEq, Nat.reduceAdd, Nat.reduceMul, Int.reduceLE, Int.reduceLT, Int.reduceToNat, Nat.reduceLeDiff, Nat.reduceSub, Int.reduceEq, Nat.reduceBEq, evB, tyA, w2, w3, gd, hs3, ints_len, hdl]; (repeat (with_reducible refine And.intro ?_ ?_; exact sdX)); (with_reducible first | refine awp_id ?_ | refine id_call ?_ | refine id_and ?_ | refine id_ex ?_ | refine id_all ?_ | refine id_nat ?_ | refine id_le ?_))))
                  refine ⟨i + 1, by omega, by omega, mkS_le rfl ?_ ?_⟩
                  · exact evX
                  · simp (maxSteps := 4000000) only [↓reduceIte, Nat.reduceLT, Nat.reduceEqDiff, reduceCtorEq, Nat.reduceAdd, Nat.reduceMul, Int.reduceLE, Int.reduceLT, Int.reduceToNat, Nat.reduceLeDiff, Nat.reduceSub, Int.reduceEq, Nat.reduceBEq, evB, gd, List.drop_succ_cons, List.drop_nil, hs3, hyes d6]
              · have d6 : decide (dst F N n i < 0) = false := by simpa using hneg
                rw [d6, Bool.false_and] at hno
                (repeat (first | refine awp_seq ?_ | refine awp_block ?_ | ((first | refine awp_skip ?_ | refine awp_exit ?_ | refine awp_reg ttok ?_ | (refine awp_draw ttok ?dr_calm ?_; (case dr_calm => decide +kernel)) | refine awp_condM ?_); simp (maxSteps := 4000000) only [↓reduceIte, Nat.reduceLT, Nat.reduceEqDiff, reduceCtorEq, Nat.reduceAdd, Nat.reduceMul, Int.reduceLE, Int.reduceLT, Int.reduceToNat, Nat.reduceLeDiff, Nat.reduceSub, Int.reduceEq, Nat.reduceBEq, evB, tyA, d5, gN, gd, d6, ints_len, iis_len, hl, hdl, w3]; (repeat (with_reducible refine And.intro ?_ ?_; exact sdX)); (with_reducible first | refine awp_id ?_ | refine id_call ?_ | refine id_and ?_ | refine id_ex ?_ | refine id_all ?_ | refine id_nat ?_ | refine id_le ?_))))
                refine ⟨i + 1, by omega, by omega, mkS_le rfl ?_ ?_⟩
                · exact evX
                · simp (maxSteps := 4000000) only [↓reduceIte, Nat.reduceLT, Nat.reduceEqDiff, reduceCtorEq, Nat.reduceAdd, Nat.reduceMul, Int.reduceLE, Int.reduceLT, Int.reduceToNat, Nat.reduceLeDiff, Nat.reduceSub, Int.reduceEq, Nat.reduceBEq, evB, ← hno rfl]
            · have d5 : decide ((i : Int) < (k : Int)) = false := by simpa using hli
              obtain rfl : k = i := by omega
              (repeat (first | refine awp_seq ?_ | refine awp_block ?_ | ((first | refine awp_skip ?_ | refine awp_exit ?_ | refine awp_reg ttok ?_ | (refine awp_draw ttok ?dr_calm ?_; (case dr_calm => decide +kernel)) | refine awp_condM ?_); simp (maxSteps := 4000000) only [↓reduceIte, Nat.reduceLT, Nat.reduceEqDiff, reduceCtorEq, Nat.reduceAdd, Nat.reduceMul, Int.reduceLE, Int.reduceLT, Int.reduceToNat, Nat.reduceLeDiff, Nat.reduceSub, Int.reduceEq, Nat.reduceBEq, evB, tyA, d5, w2]; (repeat (with_reducible refine And.intro ?_ ?_; exact sdX)); (with_reducible first | refine awp_id ?_ | refine id_call ?_ | refine id_and ?_ | refine id_ex ?_ | refine id_all ?_ | refine id_nat ?_ | refine id_le ?_))))
              refine ⟨n + 1, by omega, by omega, mkS_le rfl ?_ ?_⟩
              · exact evX
              · simp (maxSteps := 4000000) only [↓reduceIte, Nat.reduceLT, Nat.reduceEqDiff, reduceCtorEq, Nat.reduceAdd, Nat.reduceMul, Int.reduceLE, Int.reduceLT, Int.reduceToNat, Nat.reduceLeDiff, Nat.reduceSub, Int.reduceEq, Nat.reduceBEq, evB, dP_all]
        · have d4 : decide ((n : Int) < (k : Int)) = false := by simpa using hlt
          obtain rfl : k = n := by omega
          have hdl : (dP F N k k 0).length = k := mapR_len _ _
          have gs : ∀ s, s < k → (ints (dP F N k k 0)).getD s [] = [i64 (dst F N k s)] := fun s hs => by
            rw [ints_get (by omega), dP_get hs, if_neg (by omega)]
          have gss := gs s hs
          by_cases hneg : dst F N k s < 0
          · have d6 : decide (dst F N k s < 0) = true := by simpa using hneg
            rw [if_pos hneg]
            (repeat (first | refine awp_seq ?_ | refine awp_block ?_ | ((first | refine awp_skip ?_ | refine awp_exit ?_ | refine awp_reg ttok ?_ | (refine awp_draw ttok ?dr_calm ?_; (case dr_calm => decide +kernel)) | refine awp_condM ?_); simp (maxSteps := 4000000) only [↓reduceIte, Nat.reduceLT, Nat.reduceEqDiff, reduceCtorEq, Nat.reduceAdd, Nat.reduceMul, Int.reduceLE, Int.reduceLT, Int.reduceToNat, Nat.reduceLeDiff, Nat.reduceSub, Int.reduceEq, Nat.reduceBEq, evB, tyA, d4, gss, ints_len, hdl, d6]; (repeat (with_reducible refine And.intro ?_ ?_; exact sdX)); (with_reducible first | refine awp_id ?_ | refine id_call ?_ | refine id_and ?_ | refine id_ex ?_ | refine id_all ?_ | refine id_nat ?_ | refine id_le ?_))))
            exact awp_ret (show ∃ gs, Ab.Ends [4, 5] (D.tup [.sl true [], bo false]) [] gs .ret _ from ends_plain (.inr rfl) rfl evX)
          · have d6 : decide (dst F N k s < 0) = false := by simpa using hneg
            rw [if_neg hneg]
            (repeat (first | refine awp_seq ?_ | refine awp_block ?_ | ((first | refine awp_skip ?_ | refine awp_exit ?_ | refine awp_reg ttok ?_ | (refine awp_draw ttok ?dr_calm ?_; (case dr_calm => decide +kernel)) | refine awp_condM ?_); simp (maxSteps := 4000000) only [↓reduceIte, Nat.reduceLT, Nat.reduceEqDiff, reduceCtorEq, Nat.reduceAdd, Nat.reduceMul, Int.reduceLE, Int.reduceLT, Int.reduceToNat, Nat.reduceLeDiff, Nat.reduceSub, Int.reduceEq, Nat.reduceBEq, evB, tyA, d4, gss, ints_len, hdl, d6]; (repeat (with_reducible refine And.intro ?_ ?_; exact sdX)); (with_reducible first | refine awp_id ?_ | refine id_call ?_ | refine id_and ?_ | refine id_ex ?_ | refine id_all ?_ | refine id_nat ?_ | refine id_le ?_))))
            refine awp_label ?_
            simp (maxSteps := 4000000) only [↓reduceIte, Nat.reduceLT, Nat.reduceEqDiff, reduceCtorEq, Nat.reduceAdd, Nat.reduceMul, Int.reduceLE, Int.reduceLT, Int.reduceToNat, Nat.reduceLeDiff, Nat.reduceSub, Int.reduceEq, Nat.reduceBEq, evB]
            (repeat (first | refine awp_seq ?_ | refine awp_block ?_ | ((first | refine awp_skip ?_ | refine awp_exit ?_ | refine awp_reg ttok ?_ | (refine awp_draw ttok ?dr_calm ?_; (case dr_calm => decide +kernel)) | refine awp_condM ?_); simp (maxSteps := 4000000) only [↓reduceIte, Nat.reduceLT, Nat.reduceEqDiff, reduceCtorEq, Nat.reduceAdd, Nat.reduceMul, Int.reduceLE, Int.reduceLT, Int.reduceToNat, Nat.reduceLeDiff, Nat.reduceSub, Int.reduceEq, Nat.reduceBEq, evB, tyA]; (repeat (with_reducible refine And.intro ?_ ?_; exact sdX)); (with_reducible first | refine awp_id ?_ | refine id_call ?_ | refine id_and ?_ | refine id_ex ?_ | refine id_all ?_ | refine id_nat ?_ | refine id_le ?_))))
            refine awp_own_nil 11 9000 1 evX (by decide) ?_
            obtain ⟨m0, hm0⟩ : ∃ m0 : Nat, dst F N k s = (m0 : Int) := ⟨(dst F N k s).toNat, by omega⟩
            rw [hm0, Int.toNat_natCast]
            refine awp_loop (X := List Int × Nat × Nat) (fun x => mkS 124 [(2, .ptr 1000 0 0), (6, .ptr 4004 0 0), (11, .own 9000 0 x.1.length), (12, i64 x.2.1)] [(1000, { sz := 4, rows := [[i64 L, i64 st, .sl false (bos F), .sl false (iis N)]], flat := false }), (4004, { sz := 1, rows := [[.own 4003 0 k]], flat := false }), (4003, { sz := 1, rows := ints (dP F N k k 0) }), (9000, { sz := 1, rows := ints x.1 })]) (fun x => x.2.1 < k ∧ dst F N k x.2.1 = (x.2.2 : Int) ∧ x.1 ++ endF (dst F N k) N x.2.2 x.2.1 = endF (dst F N k) N m0 s) (fun x => x.2.2) ([], s, m0) ⟨hs, hm0, rfl⟩ (mkS_le rfl ?_ ?_) ?_
            · simp (maxSteps := 4000000) only [↓reduceIte, Nat.reduceLT, Nat.reduceEqDiff, reduceCtorEq, Nat.reduceAdd, Nat.reduceMul, Int.reduceLE, Int.reduceLT, Int.reduceToNat, Nat.reduceLeDiff, Nat.reduceSub, Int.reduceEq, Nat.reduceBEq, evB, St.toOwn]
              try rfl
            · simp (maxSteps := 4000000) only [↓reduceIte, Nat.reduceLT, Nat.reduceEqDiff, reduceCtorEq, Nat.reduceAdd, Nat.reduceMul, Int.reduceLE, Int.reduceLT, Int.reduceToNat, Nat.reduceLeDiff, Nat.reduceSub, Int.reduceEq, Nat.reduceBEq, evB, St.toOwn]
              try rfl
            rintro ⟨w, t, m⟩ ⟨ht, hm, hw⟩
            dsimp only at ht hm hw ⊢
            have gt := gs t ht
            rw [hm] at gt
            have hwl : w.length ≤ 2000 := by
              have e := congrArg List.length hw
              rw [List.length_append, (endF_spec h m0 s hs hm0).1] at e
              rcases dst_spec h (F := F) k s hs with ⟨e2, _⟩ | ⟨m', hm', e2, _⟩ <;> omega
            rcases Nat.eq_zero_or_pos m with rfl | hm0
            · have d7 : decide (((0 : Nat) : Int) > 0) = false := rfl
              rw [show endF (dst F N k) N 0 t = [] from rfl, List.append_nil] at hw
              rw [← hw]
              (repeat (first | refine awp_seq ?_ | refine awp_block ?_ | ((first | refine awp_skip ?_ | refine awp_exit ?_ | refine awp_reg ttok ?_ | (refine awp_draw ttok ?dr_calm ?_; (case dr_calm => decide +kernel)) | refine awp_condM ?_); simp (maxSteps := 4000000) only [↓reduceIte, Nat.reduceLT, Nat.reduceEqDiff, reduceCtorEq, Nat.reduceAdd, Nat.reduceMul, Int.reduceLE, Int.reduceLT, Int.reduceToNat, Nat.reduceLeDiff, Nat.reduceSub, Int.reduceEq, Nat.reduceBEq, evB, tyA, gt, d7, ints_len, hdl]; (repeat (with_reducible refine And.intro ?_ ?_; exact sdX)); (with_reducible first | refine awp_id ?_ | refine id_call ?_ | refine id_and ?_ | refine id_ex ?_ | refine id_all ?_ | refine id_nat ?_ | refine id_le ?_))))
              refine awp_pure 4 (d := .own 9000 0 w.length) (d' := .sl false (ints w)) (ids := [9000]) (p := w.length ≤ (ints w).length) evX (by simp (maxSteps := 4000000) only [↓reduceIte, Nat.reduceLT, Nat.reduceEqDiff, reduceCtorEq, Nat.reduceAdd, Nat.reduceMul, Int.reduceLE, Int.reduceLT, Int.reduceToNat, Nat.reduceLeDiff, Nat.reduceSub, Int.reduceEq, Nat.reduceBEq, evB, ints_take, List.take_length]) (by rw [ints_len]; exact Nat.le_refl _) ?_
              exact awp_ret (show ∃ gs, Ab.Ends [4, 5] (D.tup [.sl false (ints w), bo true]) [] gs .ret _ from ends_plain (.inr rfl) rfl evX)
            · obtain ⟨m, rfl⟩ : ∃ j, m = j + 1 := ⟨m - 1, by omega⟩
              have d7 : decide (((m + 1 : Nat) : Int) > 0) = true := by simp
              have gN := iis_get (l := N) (i := t) (by omega)
              have hRl := (h.get ht).1
              have hRb := (h.get ht).2
              have hex := dst_next h ht hm
              have hfst := fun c => idxP_first (fun t => decide (t ≥ 0) && (dst F N k t.toNat == (m : Int))) 0 (l := N.getD t []) (c := c)
              rw [endF] at hw
              have hmk : m + 1 ≤ k := by
                rcases dst_spec h (F := F) k t ht with ⟨e, _⟩ | ⟨m', hm', e, _⟩ <;> omega
              have hft : List.take w.length w = w := List.take_of_length_le (Nat.le_refl _)
              generalize N.getD t [] = R at *
              have wm : IntKind.i64.wrap (((m + 1 : Nat) : Int) - 1) = (m : Int) := by
                rw [i64_in (by omega) (by omega)]; omega
              (repeat (first | refine awp_seq ?_ | refine awp_block ?_ | ((first | refine awp_skip ?_ | refine awp_exit ?_ | refine awp_reg ttok ?_ | (refine awp_draw ttok ?dr_calm ?_; (case dr_calm => decide +kernel)) | refine awp_condM ?_); simp (maxSteps := 4000000) only [↓reduceIte, Nat.reduceLT, Nat.reduceEqDiff, reduceCtorEq, Nat.reduceAdd, Nat.reduceMul, Int.reduceLE, Int.reduceLT, Int.reduceToNat, Nat.reduceLeDiff, Nat.reduceSub, Int.reduceEq, Nat.reduceBEq, evB, tyA, gt, d7, ints_len, hdl, gN, iis_len, hl]; (repeat (with_reducible refine And.intro ?_ ?_; exact sdX)); (with_reducible first | refine awp_id ?_ | refine id_call ?_ | refine id_and ?_ | refine id_ex ?_ | refine id_all ?_ | refine id_nat ?_ | refine id_le ?_))))
              refine awp_loop (X := Nat) (fun c => mkS 124 [(2, .ptr 1000 0 0), (6, .ptr 4004 0 0), (11, .own 9000 0 w.length), (12, i64 t), (96, .sl false (ints R)), (97, i64 L), (98, i64 c)] [(1000, { sz := 4, rows := [[i64 L, i64 st, .sl false (bos F), .sl false (iis N)]], flat := false }), (4004, { sz := 1, rows := [[.own 4003 0 k]], flat := false }), (4003, { sz := 1, rows := ints (dP F N k k 0) }), (9000, { sz := 1, rows := ints w })]) (fun c => c ≤ L ∧ ∀ j, j < c → (decide (R.getD j 0 ≥ 0) && (dst F N k (R.getD j 0).toNat == (m : Int))) = false) (fun c => L - c) 0 ⟨by omega, fun j hj => by omega⟩ (mkS_le rfl ?_ ?_) ?_
              · simp (maxSteps := 4000000) only [↓reduceIte, Nat.reduceLT, Nat.reduceEqDiff, reduceCtorEq, Nat.reduceAdd, Nat.reduceMul, Int.reduceLE, Int.reduceLT, Int.reduceToNat, Nat.reduceLeDiff, Nat.reduceSub, Int.reduceEq, Nat.reduceBEq, evB, hRl]
                try rfl
              · exact evX
              rintro c ⟨hc, hpre⟩
              by_cases hcl : c < L
              · have d8 : decide ((c : Int) < (L : Int)) = true := by simpa using hcl
                have wc : IntKind.i64.wrap ((c : Int) + 1) = ((c + 1 : Nat) : Int) := i64_in (by omega) (by omega)
                have gR := ints_get (l := R) (i := c) (by omega)
                have hxb := hRb _ (getD_mem (l := R) (i := c) (by omega) 0)
                have hf := hfst c
                have hstep : ∀ b, (decide (R.getD c 0 ≥ 0) && (dst F N k (R.getD c 0).toNat == (m : Int))) = b → b = false → ∀ j, j < c + 1 → (decide (R.getD j 0 ≥ 0) && (dst F N k (R.getD j 0).toNat == (m : Int))) = false := fun b e1 e2 j hj => by
                  rcases Nat.lt_or_ge j c with z | z
                  · exact hpre j z
                  · rw [show j = c by omega, e1, e2]
                generalize hxe : R.getD c 0 = x at *
                by_cases hx0 : x ≥ 0
                · obtain ⟨y, rfl⟩ := Int.eq_ofNat_of_zero_le hx0
                  have d9 : decide ((y : Int) ≥ 0) = true := by simp
                  rw [Int.toNat_natCast] at hf hstep
                  have gy := gs y (by omega)
                  cases hb : dst F N k y == (m : Int)
                  · (repeat (first | refine awp_seq ?_ | refine awp_block ?_ | ((first | refine awp_skip ?_ | refine awp_exit ?_ | refine awp_reg ttok ?_ | (refine awp_draw ttok ?dr_calm ?_; (case dr_calm => decide +kernel)) | refine awp_condM ?_); simp (maxSteps := 4000000) only [↓reduceIte, Nat.reduceLT, Nat.reduceEqDiff, reduceCtorEq, Nat.reduceAdd, Nat.reduceMul, Int.reduceLE, Int.reduceLT, Int.reduceToNat, Nat.reduceLeDiff, Nat.reduceSub, Int.reduceEq, Nat.reduceBEq, evB, tyA, d8, d9, gR, gt, gy, ints_len, hdl, hRl, wm, hb, wc]; (repeat (with_reducible refine And.intro ?_ ?_; exact sdX)); (with_reducible first | refine awp_id ?_ | refine id_call ?_ | refine id_and ?_ | refine id_ex ?_ | refine id_all ?_ | refine id_nat ?_ | refine id_le ?_))))
                    refine ⟨c + 1, ⟨by omega, hstep false (by rw [hb, Bool.and_false]) rfl⟩, by omega, mkS_le rfl ?_ ?_⟩
                    · exact evX
                    · exact evX
                  · have hir := hf (by omega) (by rw [d9, hb]; rfl) hpre
                    rw [hir, Int.toNat_natCast, hxe, Int.toNat_natCast] at hw
                    have y3 : (∀ row ∈ [[i64 (c : Int)]], row.length = 1) = True := by simp
                    (repeat (first | refine awp_seq ?_ | refine awp_block ?_ | ((first | refine awp_skip ?_ | refine awp_exit ?_ | refine awp_reg ttok ?_ | (refine awp_draw ttok ?dr_calm ?_; (case dr_calm => decide +kernel)) | refine awp_condM ?_); simp (maxSteps := 4000000) only [↓reduceIte, Nat.reduceLT, Nat.reduceEqDiff, reduceCtorEq, Nat.reduceAdd, Nat.reduceMul, Int.reduceLE, Int.reduceLT, Int.reduceToNat, Nat.reduceLeDiff, Nat.reduceSub, Int.reduceEq, Nat.reduceBEq, evB, tyA, d8, d9, gR, gt, gy, ints_len, hdl, hRl, wm, hb, wc, ints_take, hft, y3]; (repeat (with_reducible refine And.intro ?_ ?_; exact sdX)); (with_reducible first | refine awp_id ?_ | refine id_call ?_ | refine id_and ?_ | refine id_ex ?_ | refine id_all ?_ | refine id_nat ?_ | refine id_le ?_))))
                    refine ⟨(w ++ [(c : Int)], y, m), ⟨by show y < k; omega, by simpa using hb, by rw [List.append_assoc]; exact hw⟩, by show m < m + 1; omega, mkS_le rfl ?_ ?_⟩
                    · simp (maxSteps := 4000000) only [↓reduceIte, Nat.reduceLT, Nat.reduceEqDiff, reduceCtorEq, Nat.reduceAdd, Nat.reduceMul, Int.reduceLE, Int.reduceLT, Int.reduceToNat, Nat.reduceLeDiff, Nat.reduceSub, Int.reduceEq, Nat.reduceBEq, evB, List.length_append, List.length_cons, List.length_nil]
                    · simp (maxSteps := 4000000) only [↓reduceIte, Nat.reduceLT, Nat.reduceEqDiff, reduceCtorEq, Nat.reduceAdd, Nat.reduceMul, Int.reduceLE, Int.reduceLT, Int.reduceToNat, Nat.reduceLeDiff, Nat.reduceSub, Int.reduceEq, Nat.reduceBEq, evB, ints_take, hft, ints_one, ints_app, List.length_append, List.length_cons, List.length_nil]
                · have d9 : decide (x ≥ 0) = false := by simpa using hx0
                  (repeat (first | refine awp_seq ?_ | refine awp_block ?_ | ((first | refine awp_skip ?_ | refine awp_exit ?_ | refine awp_reg ttok ?_ | (refine awp_draw ttok ?dr_calm ?_; (case dr_calm => decide +kernel)) | refine awp_condM ?_); simp (maxSteps := 4000000) only [↓reduceIte, Nat.reduceLT, Nat.reduceEqDiff, reduceCtorEq, Nat.reduceAdd, Nat.reduceMul, Int.reduceLE, Int.reduceLT, Int.reduceToNat, Nat.reduceLeDiff, Nat.reduceSub, Int.reduceEq, Nat.reduceBEq, evB, tyA, d8, d9, gR, ints_len, hRl, wc]; (repeat (with_reducible refine And.intro ?_ ?_; exact sdX)); (with_reducible first | refine awp_id ?_ | refine id_call ?_ | refine id_and ?_ | refine id_ex ?_ | refine id_all ?_ | refine id_nat ?_ | refine id_le ?_))))
                  refine ⟨c + 1, ⟨by omega, hstep false (by rw [d9, Bool.false_and]) rfl⟩, by omega, mkS_le rfl ?_ ?_⟩
                  · exact evX
                  · exact evX
              · exfalso
                obtain ⟨c', h1, h2, h3, h4⟩ := idxP_some _ 0 R 0 hex
                have := hpre c' (by omega)
                rw [h3] at this; cases this
def ext (L : Nat) (w : List Int) : List (List Int) := (List.range L).map fun (a : Nat) => w ++ [(a : Int)]
theorem runD_append {N : List (List Int)} : ∀ {u v : List Int} {s : Int}, runD N s (u ++ v) = runD N (runD N s u) v
  | [], v, s => rfl
  | k :: u, v, s => by
    rw [List.cons_append, runD, runD]
    by_cases h : s < 0
    · rw [if_pos h, if_pos h, runD_neg h]
    · rw [if_neg h, if_neg h, runD_append]
theorem runD_stop {N : List (List Int)} {w : List Int} {n : Nat} {s : Int} (h : runD N s (w.take n) < 0) : runD N s w = runD N s (w.take n) := by
  conv => lhs; rw [← List.take_append_drop n w]
  rw [runD_append, runD_neg h]
theorem runD_next {N : List (List Int)} {w : List Int} {n : Nat} {s : Int} (hn : n < w.length) (h : 0 ≤ runD N s (w.take n)) : runD N s (w.take (n + 1)) = toD N (runD N s (w.take n)) (w.getD n 0) := by
  have e : w.take (n + 1) = w.take n ++ [w.getD n 0] := by
    rw [List.take_add_one, List.getElem?_eq_getElem hn]
    simp [List.getD, List.getElem?_eq_getElem hn]
  rw [e, runD_app, if_neg (by omega)]
theorem toD_bad {L k : Nat} {N : List (List Int)} (h : NOk L k N) {s c : Int} (hs : 0 ≤ s) (hb : c < 0 ∨ (L : Int) ≤ c ∨ (k : Int) ≤ s) : toD N s c = -1 := by
  unfold toD
  split
  · rfl
  · rename_i hn
    have hl := h.len
    have := (h.get (s := s.toNat) (by omega)).1
    omega
theorem toD_good {L k : Nat} {N : List (List Int)} (h : NOk L k N) {s c : Nat} (hs : s < k) (hc : c < L) : toD N s c = (N.getD s []).getD c 0 := by
  have hl := h.len
  have := (h.get hs).1
  unfold toD
  rw [if_neg (by rw [Int.toNat_natCast]; omega), Int.toNat_natCast, Int.toNat_natCast]
set_option maxRecDepth 20000 in
set_option maxHeartbeats 16000000 in
theorem c_RunG {L k : Nat} {N : List (List Int)} (h : NOk L k N) (st : Nat) (F : List Bool) (hL : L ≤ 2000) (hk : 1 ≤ k ∧ k ≤ 2000) (s : Int) (hs : -9223372036854775808 ≤ s ∧ s ≤ 9223372036854775807) (f : Bool) (w : List Int) (hw : w.length ≤ 9223372036854775806) :
    Contract Try.prog 18 [dfaD L st F N, i64 s, .sl f (ints w)] (i64 (runD N s w)) [] := by
  refine contract_of_awp (rs := [6]) Try.func18 rfl Try.ntmps18 (by simp) rfl fun E => ?_
  have hl := h.len
  (repeat (first | refine awp_seq ?_ | refine awp_block ?_ | ((first | refine awp_skip ?_ | refine awp_exit ?_ | refine awp_reg ttok ?_ | (refine awp_draw ttok ?dr_calm ?_; (case dr_calm => decide +kernel)) | refine awp_condM ?_); simp (maxSteps := 4000000) only [↓reduceIte, Nat.reduceLT, Nat.reduceEqDiff, reduceCtorEq, Nat.reduceAdd, Nat.reduceMul, Int.reduceLE, Int.reduceLT, Int.reduceToNat, Nat.reduceLeDiff, Nat.reduceSub, Int.reduceEq, Nat.reduceBEq, evB, tyA, dfaD]; (repeat (with_reducible refine And.intro ?_ ?_; exact sdX)); (with_reducible first | refine awp_id ?_ | refine id_call ?_ | refine id_and ?_ | refine id_ex ?_ | refine id_all ?_ | refine id_nat ?_ | refine id_le ?_))))
  refine awp_loop (X := Nat) (fun n => mkS 64 [(1, i64 (runD N s (w.take n))), (2, .sl f (ints w)), (3, .ptr 1000 0 0), (7, i64 n)] [(1000, { sz := 4, rows := [[i64 L, i64 st, .sl false (bos F), .sl false (iis N)]], flat := false })]) (fun n => n ≤ w.length) (fun n => w.length - n) 0 (Nat.zero_le _) (mkS_le rfl ?_ ?_) ?_
  · simp (maxSteps := 4000000) only [↓reduceIte, Nat.reduceLT, Nat.reduceEqDiff, reduceCtorEq, Nat.reduceAdd, Nat.reduceMul, Int.reduceLE, Int.reduceLT, Int.reduceToNat, Nat.reduceLeDiff, Nat.reduceSub, Int.reduceEq, Nat.reduceBEq, evB, runD]
    try rfl
  · simp (maxSteps := 4000000) only [↓reduceIte, Nat.reduceLT, Nat.reduceEqDiff, reduceCtorEq, Nat.reduceAdd, Nat.reduceMul, Int.reduceLE, Int.reduceLT, Int.reduceToNat, Nat.reduceLeDiff, Nat.reduceSub, Int.reduceEq, Nat.reduceBEq, evB]
    try rfl
  · intro n hn
    have hwi : IntKind.i64.wrap ((n : Int) + 1) = ((n + 1 : Nat) : Int) := i64_in (by omega) (by omega)
    by_cases hlt : n < w.length
    · have d1 : decide ((n : Int) < (w.length : Int)) = true := by simpa using hlt
      have hnx := runD_next (N := N) (s := s) hlt
      have hst := runD_stop (N := N) (s := s) (w := w) (n := n)
      have hst1 := runD_stop (N := N) (s := s) (w := w) (n := n + 1)
      generalize hZ : runD N s (w.take n) = Z at *
      by_cases hz : 0 ≤ Z
      · have d2 : decide (0 ≤ Z) = true := by simpa using hz
        have hnx := hnx hz
        rw [hnx] at hst1
        have hgw := ints_get hlt
        generalize w.getD n 0 = x at *
        by_cases hb : x < 0 ∨ (L : Int) ≤ x ∨ (k : Int) ≤ Z
        · have hbad := toD_bad h hz hb
          have hres : runD N s w = -1 := by rw [hst1 (by omega), hbad]
          by_cases b1 : x < 0
          · have e1 : decide (x < 0) = true := by simpa using b1
            (repeat (first | refine awp_seq ?_ | refine awp_block ?_ | ((first | refine awp_skip ?_ | refine awp_exit ?_ | refine awp_reg ttok ?_ | (refine awp_draw ttok ?dr_calm ?_; (case dr_calm => decide +kernel)) | refine awp_condM ?_); simp (maxSteps := 4000000) only [↓reduceIte, Nat.reduceLT, Nat.reduceEqDiff, reduceCtorEq, Nat.reduceAdd, Nat.reduceMul, Int.reduceLE, Int.reduceLT, Int.reduceToNat, Nat.reduceLeDiff, Nat.reduceSub, Int.reduceEq, Nat.reduceBEq, evB, tyA, d1, d2, ints_len, hgw, e1]; (repeat (with_reducible refine And.intro ?_ ?_; exact sdX)); (with_reducible first | refine awp_id ?_ | refine id_call ?_ | refine id_and ?_ | refine id_ex ?_ | refine id_all ?_ | refine id_nat ?_ | refine id_le ?_))))
            exact awp_ret (ends_plain (.inr rfl) rfl (by simp (maxSteps := 4000000) only [↓reduceIte, Nat.reduceLT, Nat.reduceEqDiff, reduceCtorEq, Nat.reduceAdd, Nat.reduceMul, Int.reduceLE, Int.reduceLT, Int.reduceToNat, Nat.reduceLeDiff, Nat.reduceSub, Int.reduceEq, Nat.reduceBEq, evB, hres]))
          · have e1 : decide (x < 0) = false := by simpa using b1
            by_cases b2 : (L : Int) ≤ x
            · have e2 : decide ((L : Int) ≤ x) = true := by simpa using b2
              (repeat (first | refine awp_seq ?_ | refine awp_block ?_ | ((first | refine awp_skip ?_ | refine awp_exit ?_ | refine awp_reg ttok ?_ | (refine awp_draw ttok ?dr_calm ?_; (case dr_calm => decide +kernel)) | refine awp_condM ?_); simp (maxSteps := 4000000) only [↓reduceIte, Nat.reduceLT, Nat.reduceEqDiff, reduceCtorEq, Nat.reduceAdd, Nat.reduceMul, Int.reduceLE, Int.reduceLT, Int.reduceToNat, Nat.reduceLeDiff, Nat.reduceSub, Int.reduceEq, Nat.reduceBEq, evB, tyA, d1, d2, ints_len, hgw, e1, e2]; (repeat (with_reducible refine And.intro ?_ ?_; exact sdX)); (with_reducible first | refine awp_id ?_ | refine id_call ?_ | refine id_and ?_ | refine id_ex ?_ | refine id_all ?_ | refine id_nat ?_ | refine id_le ?_))))
              exact awp_ret (ends_plain (.inr rfl) rfl (by simp (maxSteps := 4000000) only [↓reduceIte, Nat.reduceLT, Nat.reduceEqDiff, reduceCtorEq, Nat.reduceAdd, Nat.reduceMul, Int.reduceLE, Int.reduceLT, Int.reduceToNat, Nat.reduceLeDiff, Nat.reduceSub, Int.reduceEq, Nat.reduceBEq, evB, hres]))
            · have e2 : decide ((L : Int) ≤ x) = false := by simpa using b2
              have e3 : decide ((k : Int) ≤ Z) = true := by simp; omega
              (repeat (first | refine awp_seq ?_ | refine awp_block ?_ | ((first | refine awp_skip ?_ | refine awp_exit ?_ | refine awp_reg ttok ?_ | (refine awp_draw ttok ?dr_calm ?_; (case dr_calm => decide +kernel)) | refine awp_condM ?_); simp (maxSteps := 4000000) only [↓reduceIte, Nat.reduceLT, Nat.reduceEqDiff, reduceCtorEq, Nat.reduceAdd, Nat.reduceMul, Int.reduceLE, Int.reduceLT, Int.reduceToNat, Nat.reduceLeDiff, Nat.reduceSub, Int.reduceEq, Nat.reduceBEq, evB, tyA, d1, d2, ints_len, hgw, e1, e2, iis_len, hl, e3]; (repeat (with_reducible refine And.intro ?_ ?_; exact sdX)); (with_reducible first | refine awp_id ?_ | refine id_call ?_ | refine id_and ?_ | refine id_ex ?_ | refine id_all ?_ | refine id_nat ?_ | refine id_le ?_))))
              exact awp_ret (ends_plain (.inr rfl) rfl (by simp (maxSteps := 4000000) only [↓reduceIte, Nat.reduceLT, Nat.reduceEqDiff, reduceCtorEq, Nat.reduceAdd, Nat.reduceMul, Int.reduceLE, Int.reduceLT, Int.reduceToNat, Nat.reduceLeDiff, Nat.reduceSub, Int.reduceEq, Nat.reduceBEq, evB, hres]))
        · obtain ⟨z, rfl⟩ := Int.eq_ofNat_of_zero_le hz
          obtain ⟨c, rfl⟩ := Int.eq_ofNat_of_zero_le (show 0 ≤ x by omega)
          have hzk : z < k := by omega
          have hcL : c < L := by omega
          have hgd := toD_good h hzk hcL
          have hrl := (h.get hzk).1
          have hgi := iis_get (l := N) (i := z) (by omega)
          have hgc := ints_get (l := N.getD z []) (i := c) (by omega)
          have e1 : decide (((c : Nat) : Int) < 0) = false := by simp
          have e2 : decide ((L : Int) ≤ ((c : Nat) : Int)) = false := by simp; omega
          have e3 : decide ((k : Int) ≤ ((z : Nat) : Int)) = false := by simp; omega
          (repeat (first | refine awp_seq ?_ | refine awp_block ?_ | ((first | refine awp_skip ?_ | refine awp_exit ?_ | refine awp_reg ttok ?_ | (refine awp_draw ttok ?dr_calm ?_; (case dr_calm => decide +kernel)) | refine awp_condM ?_); simp (maxSteps := 4000000) only [↓reduceIte, Nat.reduceLT, Nat.reduceEqDiff, reduceCtorEq, Nat.reduceAdd, Nat.reduceMul, Int.reduceLE, Int.reduceLT, Int.reduceToNat, Nat.reduceLeDiff, Nat.reduceSub, Int.reduceEq, Nat.reduceBEq, evB, tyA, d1, d2, ints_len, hgw, e1, e2, iis_len, hl, e3, hgi, hrl, hgc, hwi]; (repeat (with_reducible refine And.intro ?_ ?_; exact sdX)); (with_reducible first | refine awp_id ?_ | refine id_call ?_ | refine id_and ?_ | refine id_ex ?_ | refine id_all ?_ | refine id_nat ?_ | refine id_le ?_))))
          refine ⟨n + 1, by omega, by omega, mkS_le rfl ?_ ?_⟩
          · simp (maxSteps := 4000000) only [↓reduceIte, Nat.reduceLT, Nat.reduceEqDiff, reduceCtorEq, Nat.reduceAdd, Nat.reduceMul, Int.reduceLE, Int.reduceLT, Int.reduceToNat, Nat.reduceLeDiff, Nat.reduceSub, Int.reduceEq, Nat.reduceBEq, evB, hnx, hgd]
          · exact evX
      · have d2 : decide (0 ≤ Z) = false := by simpa using hz
        have hres := hst (by omega)
        (repeat (first | refine awp_seq ?_ | refine awp_block ?_ | ((first | refine awp_skip ?_ | refine awp_exit ?_ | refine awp_reg ttok ?_ | (refine awp_draw ttok ?dr_calm ?_; (case dr_calm => decide +kernel)) | refine awp_condM ?_); simp (maxSteps := 4000000) only [↓reduceIte, Nat.reduceLT, Nat.reduceEqDiff, reduceCtorEq, Nat.reduceAdd, Nat.reduceMul, Int.reduceLE, Int.reduceLT, Int.reduceToNat, Nat.reduceLeDiff, Nat.reduceSub, Int.reduceEq, Nat.reduceBEq, evB, tyA, d1, d2, ints_len]; (repeat (with_reducible refine And.intro ?_ ?_; exact sdX)); (with_reducible first | refine awp_id ?_ | refine id_call ?_ | refine id_and ?_ | refine id_ex ?_ | refine id_all ?_ | refine id_nat ?_ | refine id_le ?_))))
        exact awp_ret (ends_plain (.inr rfl) rfl (by simp (maxSteps := 4000000) only [↓reduceIte, Nat.reduceLT, Nat.reduceEqDiff, reduceCtorEq, Nat.reduceAdd, Nat.reduceMul, Int.reduceLE, Int.reduceLT, Int.reduceToNat, Nat.reduceLeDiff, Nat.reduceSub, Int.reduceEq, Nat.reduceBEq, evB, hres]))
    · have d1 : decide ((n : Int) < (w.length : Int)) = false := by simpa using hlt
      have hres : runD N s (w.take n) = runD N s w := by rw [List.take_of_length_le (by omega)]
      (repeat (first | refine awp_seq ?_ | refine awp_block ?_ | ((first | refine awp_skip ?_ | refine awp_exit ?_ | refine awp_reg ttok ?_ | (refine awp_draw ttok ?dr_calm ?_; (case dr_calm => decide +kernel)) | refine awp_condM ?_); simp (maxSteps := 4000000) only [↓reduceIte, Nat.reduceLT, Nat.reduceEqDiff, reduceCtorEq, Nat.reduceAdd, Nat.reduceMul, Int.reduceLE, Int.reduceLT, Int.reduceToNat, Nat.reduceLeDiff, Nat.reduceSub, Int.reduceEq, Nat.reduceBEq, evB, tyA, d1, ints_len]; (repeat (with_reducible refine And.intro ?_ ?_; exact sdX)); (with_reducible first | refine awp_id ?_ | refine id_call ?_ | refine id_and ?_ | refine id_ex ?_ | refine id_all ?_ | refine id_nat ?_ | refine id_le ?_))))
      exact awp_ret (ends_plain (.inr rfl) rfl (by simp (maxSteps := 4000000) only [↓reduceIte, Nat.reduceLT, Nat.reduceEqDiff, reduceCtorEq, Nat.reduceAdd, Nat.reduceMul, Int.reduceLE, Int.reduceLT, Int.reduceToNat, Nat.reduceLeDiff, Nat.reduceSub, Int.reduceEq, Nat.reduceBEq, evB, hres]))
set_option maxRecDepth 20000 in
set_option maxHeartbeats 16000000 in
theorem c_EndsG {L k : Nat} {N : List (List Int)} (h : NOk L k N) (st : Nat) (F : List Bool) (hF : F.length = k) (hL : L ≤ 2000) (hk : 1 ≤ k ∧ k ≤ 2000) (s : Int) (hs : -9223372036854775808 ≤ s ∧ s ≤ 9223372036854775807) (f : Bool) (w : List Int) (hw : w.length ≤ 9223372036854775806) :
    Contract Try.prog 9 [dfaD L st F N, i64 s, .sl f (ints w)] (bo (endsD F N s w)) [] := by
  refine contract_of_awp (rs := [6]) Try.func9 rfl Try.ntmps9 (by simp) rfl fun E => ?_
  (repeat (first | refine awp_seq ?_ | refine awp_block ?_ | ((first | refine awp_skip ?_ | refine awp_exit ?_ | refine awp_reg ttok ?_ | (refine awp_draw ttok ?dr_calm ?_; (case dr_calm => decide +kernel)) | refine awp_condM ?_); simp (maxSteps := 4000000) only [↓reduceIte, Nat.reduceLT, Nat.reduceEqDiff, reduceCtorEq, Nat.reduceAdd, Nat.reduceMul, Int.reduceLE, Int.reduceLT, Int.reduceToNat, Nat.reduceLeDiff, Nat.reduceSub, Int.reduceEq, Nat.reduceBEq, evB, tyA, dfaD]; (repeat (with_reducible refine And.intro ?_ ?_; exact sdX)); (with_reducible first | refine awp_id ?_ | refine id_call ?_ | refine id_and ?_ | refine id_ex ?_ | refine id_all ?_ | refine id_nat ?_ | refine id_le ?_))))
  refine callVC_scal fnok18 (c_RunG h st F hL hk s hs f w hw) rfl ?_
  simp (maxSteps := 4000000) only [↓reduceIte, Nat.reduceLT, Nat.reduceEqDiff, reduceCtorEq, Nat.reduceAdd, Nat.reduceMul, Int.reduceLE, Int.reduceLT, Int.reduceToNat, Nat.reduceLeDiff, Nat.reduceSub, Int.reduceEq, Nat.reduceBEq, evB, tyA]
  (repeat (with_reducible refine And.intro ?_ ?_; exact sdX))
  unfold endsD
  generalize runD N s w = Z
  by_cases hz : 0 ≤ Z
  · have d1 : decide (0 ≤ Z) = true := by simpa using hz
    obtain ⟨z, rfl⟩ := Int.eq_ofNat_of_zero_le hz
    by_cases hb : z < k
    · have d2 : decide ((z : Int) < (k : Int)) = true := by simpa using hb
      have hg := bos_get (l := F) (i := z) (by omega)
      (repeat (first | refine awp_seq ?_ | refine awp_block ?_ | ((first | refine awp_skip ?_ | refine awp_exit ?_ | refine awp_reg ttok ?_ | (refine awp_draw ttok ?dr_calm ?_; (case dr_calm => decide +kernel)) | refine awp_condM ?_); simp (maxSteps := 4000000) only [↓reduceIte, Nat.reduceLT, Nat.reduceEqDiff, reduceCtorEq, Nat.reduceAdd, Nat.reduceMul, Int.reduceLE, Int.reduceLT, Int.reduceToNat, Nat.reduceLeDiff, Nat.reduceSub, Int.reduceEq, Nat.reduceBEq, evB, tyA, d1, d2, bos_len, hF, hg]; (repeat (with_reducible refine And.intro ?_ ?_; exact sdX)); (with_reducible first | refine awp_id ?_ | refine id_call ?_ | refine id_and ?_ | refine id_ex ?_ | refine id_all ?_ | refine id_nat ?_ | refine id_le ?_))))
      exact awp_ret (ends_plain (.inr rfl) rfl (by simp (maxSteps := 4000000) only [↓reduceIte, Nat.reduceLT, Nat.reduceEqDiff, reduceCtorEq, Nat.reduceAdd, Nat.reduceMul, Int.reduceLE, Int.reduceLT, Int.reduceToNat, Nat.reduceLeDiff, Nat.reduceSub, Int.reduceEq, Nat.reduceBEq, evB, Int.toNat_natCast, d1, Bool.true_and]))
    · have d2 : decide ((z : Int) < (k : Int)) = false := by simpa using hb
      have hg : F.getD z false = false := by simp [List.getD, List.getElem?_eq_none (show F.length ≤ z by omega)]
      (repeat (first | refine awp_seq ?_ | refine awp_block ?_ | ((first | refine awp_skip ?_ | refine awp_exit ?_ | refine awp_reg ttok ?_ | (refine awp_draw ttok ?dr_calm ?_; (case dr_calm => decide +kernel)) | refine awp_condM ?_); simp (maxSteps := 4000000) only [↓reduceIte, Nat.reduceLT, Nat.reduceEqDiff, reduceCtorEq, Nat.reduceAdd, Nat.reduceMul, Int.reduceLE, Int.reduceLT, Int.reduceToNat, Nat.reduceLeDiff, Nat.reduceSub, Int.reduceEq, Nat.reduceBEq, evB, tyA, d1, d2, bos_len, hF]; (repeat (with_reducible refine And.intro ?_ ?_; exact sdX)); (with_reducible first | refine awp_id ?_ | refine id_call ?_ | refine id_and ?_ | refine id_ex ?_ | refine id_all ?_ | refine id_nat ?_ | refine id_le ?_))))
      exact awp_ret (ends_plain (.inr rfl) rfl (by simp (maxSteps := 4000000) only [↓reduceIte, Nat.reduceLT, Nat.reduceEqDiff, reduceCtorEq, Nat.reduceAdd, Nat.reduceMul, Int.reduceLE, Int.reduceLT, Int.reduceToNat, Nat.reduceLeDiff, Nat.reduceSub, Int.reduceEq, Nat.reduceBEq, evB, Int.toNat_natCast, hg, Bool.and_false]))
  · have d1 : decide (0 ≤ Z) = false := by simpa using hz
    (repeat (first | refine awp_seq ?_ | refine awp_block ?_ | ((first | refine awp_skip ?_ | refine awp_exit ?_ | refine awp_reg ttok ?_ | (refine awp_draw ttok ?dr_calm ?_; (case dr_calm => decide +kernel)) | refine awp_condM ?_); simp (maxSteps := 4000000) only [↓reduceIte, Nat.reduceLT, Nat.reduceEqDiff, reduceCtorEq, Nat.reduceAdd, Nat.reduceMul, Int.reduceLE, Int.reduceLT, Int.reduceToNat, Nat.reduceLeDiff, Nat.reduceSub, Int.reduceEq, Nat.reduceBEq, evB, tyA, d1]; (repeat (with_reducible refine And.intro ?_ ?_; exact sdX)); (with_reducible first | refine awp_id ?_ | refine id_call ?_ | refine id_and ?_ | refine id_ex ?_ | refine id_all ?_ | refine id_nat ?_ | refine id_le ?_))))
    exact awp_ret (ends_plain (.inr rfl) rfl (by simp (maxSteps := 4000000) only [↓reduceIte, Nat.reduceLT, Nat.reduceEqDiff, reduceCtorEq, Nat.reduceAdd, Nat.reduceMul, Int.reduceLE, Int.reduceLT, Int.reduceToNat, Nat.reduceLeDiff, Nat.reduceSub, Int.reduceEq, Nat.reduceBEq, evB, d1, Bool.false_and]))
theorem c_Ends {L k : Nat} {N : List (List Int)} (h : NOk L k N) (st : Nat) (F : List Bool) (hF : F.length = k) (hL : L ≤ 4) (hk : 1 ≤ k ∧ k ≤ 8) (s : Int) (hs : -9223372036854775808 ≤ s ∧ s ≤ 9223372036854775807) (f : Bool) (w : List Int) (hw : w.length ≤ 9223372036854775806) :
    Contract Try.prog 9 [dfaD L st F N, i64 s, .sl f (ints w)] (bo (endsD F N s w)) [] :=
  c_EndsG h st F hF (by omega) (by omega) s hs f w hw
theorem end_says {L k : Nat} {N : List (List Int)} (h : NOk L k N) (hL : L ≤ 1000) (hk : 1 ≤ k ∧ k ≤ 2000) (st : Nat) (hst : st < k) (F : List Bool) (hF : F.length = k) (s : Nat) (hs : s < k) :
    ∃ (fl : Bool) (w : List Int) (ok : Bool), Contract Try.prog 14 [dfaD L st F N, i64 s] (.tup [.sl fl (ints w), bo ok]) [] ∧ w.length < k ∧ (liveL F N).getD s false = ok ∧ (ok = false → w = []) ∧
      (ok = true → endsD F N s w = true ∧ ∀ i, i < (uptoL L w.length).length → endsD F N s ((uptoL L w.length).getD i []) = true → (∀ j, j < i → endsD F N s ((uptoL L w.length).getD j []) = false) → (uptoL L w.length).getD i [] = w) := by
  have hc := c_End h hL hk st hst F hF s hs
  have hlv := dst_live h hF hs
  by_cases hn : dst F N k s < 0
  · rw [if_pos hn] at hc
    refine ⟨true, [], false, hc, by show 0 < k; omega, ?_, fun _ => rfl, fun q => by cases q⟩
    cases q : (liveL F N).getD s false
    · rfl
    · have := hlv.1 q; omega
  · rw [if_neg hn] at hc
    obtain ⟨m, hm⟩ : ∃ m : Nat, dst F N k s = (m : Int) := ⟨(dst F N k s).toNat, by omega⟩
    rw [hm, Int.toNat_natCast] at hc
    obtain ⟨h1, h2, h3⟩ := endF_spec h m s hs hm
    refine ⟨false, _, true, hc, ?_, hlv.2 (by omega), (fun q => by cases q), fun _ => ⟨h2, ?_⟩⟩
    · rw [h1]
      rcases dst_spec h (F := F) k s hs with ⟨e, _⟩ | ⟨m', hm', e, ha, hno⟩
      · omega
      · have := least_le h hs ha hno
        omega
    · rw [h1]
      exact fun i hi hy hn => end_first h hs hm hi hy hn
end Go.Proofs.Ytglcnghfmdcdpaa
