/-
  A state's class as a text: the contract of mini.key.
-/
import Derived.Test.YtcfnbofapjgepaaLv
namespace Go.Proofs.Ytcfnbofapjgepaa
open Go.Ab
set_option linter.unusedSimpArgs false
set_option linter.unusedVariables false

/-- A number as two bytes. -/
def kLo (x : Int) : UInt8 := UInt8.ofNat (IntKind.u8.wrap x).toNat
def kHi (x : Int) : UInt8 := UInt8.ofNat (IntKind.u8.wrap (x.fdiv (2 ^ min 8 IntKind.i64.bits))).toNat
theorem wrap_u8 (x : Int) : IntKind.u8.wrap x = x % 256 := by
  simp only [IntKind.wrap, IntKind.bits, IntKind.signed, Bool.false_eq_true, if_false]
  rfl
theorem u8_back (x : Int) : ((UInt8.ofNat (x % 256).toNat).toNat : Int) = x % 256 := by
  have h1 : 0 ≤ x % 256 := Int.emod_nonneg _ (by decide)
  have h2 : x % 256 < 256 := Int.emod_lt_of_pos _ (by decide)
  rw [UInt8.toNat_ofNat']
  omega
theorem kLo_val (x : Int) : D.v (.int .u8 (IntKind.u8.wrap x)) = u8 (kLo x) := by
  rw [u8, kLo, wrap_u8, u8_back]
theorem kHi_val (x : Int) : D.v (.int .u8 (IntKind.u8.wrap (x.fdiv (2 ^ min 8 IntKind.i64.bits)))) = u8 (kHi x) := by
  rw [u8, kHi, wrap_u8, u8_back]
theorem kLH {x y : Int} (hx : -1 ≤ x ∧ x < 65535) (hy : -1 ≤ y ∧ y < 65535) (h1 : kLo x = kLo y) (h2 : kHi x = kHi y) : x = y := by
  have m : min 8 IntKind.i64.bits = 8 := rfl
  have e1 : x % 256 = y % 256 := by
    rw [← u8_back x, ← u8_back y, ← wrap_u8, ← wrap_u8]
    exact congrArg (fun b : UInt8 => ((b.toNat : Nat) : Int)) h1
  have e2 : (x / 256) % 256 = (y / 256) % 256 := by
    unfold kHi at h2
    rw [m, wrap_u8, wrap_u8] at h2
    have := congrArg (fun b : UInt8 => ((b.toNat : Nat) : Int)) h2
    simp only [u8_back] at this
    rw [Int.fdiv_eq_ediv_of_nonneg _ (by decide), Int.fdiv_eq_ediv_of_nonneg _ (by decide)] at this
    exact this
  omega
/-- Numbers as a text. -/
def kBy (l : List Int) : List UInt8 := l.flatMap fun x => [kLo x, kHi x]
def kStr (l : List Int) : ByteArray := ⟨(kBy l).toArray⟩
theorem kBy_snoc (l : List Int) (x : Int) : kBy (l ++ [x]) = kBy l ++ [kLo x, kHi x] := by simp [kBy]
theorem kBy_len (l : List Int) : (kBy l).length = 2 * l.length := by
  induction l with
  | nil => rfl
  | cons x l ih => rw [kBy, List.flatMap_cons, List.length_append, show (l.flatMap fun x => [kLo x, kHi x]) = kBy l from rfl, ih]; simp; omega
theorem kBy_inj : ∀ {l m : List Int}, (∀ x ∈ l, -1 ≤ x ∧ x < 65535) → (∀ x ∈ m, -1 ≤ x ∧ x < 65535) → kBy l = kBy m → l = m
  | [], [], _, _, _ => rfl
  | [], _ :: _, _, _, h => by simp [kBy] at h
  | _ :: _, [], _, _, h => by simp [kBy] at h
  | x :: l, y :: m, hl, hm, h => by
    simp only [kBy, List.flatMap_cons, List.cons_append, List.nil_append, List.cons.injEq] at h
    obtain ⟨h1, h2, h3⟩ := h
    rw [kLH (hl x (by simp)) (hm y (by simp)) h1 h2, kBy_inj (fun z hz => hl z (by simp [hz])) (fun z hz => hm z (by simp [hz])) h3]
theorem kStr_eq {l m : List Int} (hl : ∀ x ∈ l, -1 ≤ x ∧ x < 65535) (hm : ∀ x ∈ m, -1 ≤ x ∧ x < 65535) : (kStr l == kStr m) = (l == m) := by
  rw [Bool.eq_iff_iff, Go.MapKept.bytes_beq, beq_iff_eq]
  constructor
  · intro h
    have : (kBy l).toArray = (kBy m).toArray := congrArg ByteArray.data h
    exact kBy_inj hl hm (by simpa using congrArg Array.toList this)
  · rintro rfl; rfl

/-- What a state leads to, by classes. -/
def kTo (lv : List Bool) (c : List Int) (t : Int) : Int := if (decide (t ≥ 0) && lv.getD t.toNat false) = true then c.getD t.toNat 0 else -1
def keyL (N : List (List Int)) (lv : List Bool) (c : List Int) (s : Nat) : List Int := c.getD s 0 :: (N.getD s []).map (kTo lv c)

set_option maxRecDepth 20000 in
set_option maxHeartbeats 16000000 in
theorem c_key {L k : Nat} {N : List (List Int)} (h : NOk L k N) (st : Nat) (f g : Bool) (F lv : List Bool) (c : List Int) (hlv : lv.length = k) (hc : c.length = k) (hL : L ≤ 100000) (hk : k ≤ 2000) (s : Nat) (hs : s < k) :
    Contract Try.prog 46 [dfaD L st F N, .sl f (ints c), .sl g (bos lv), i64 s] (.v (.string (kStr (keyL N lv c s)))) [] := by
  refine contract_of_awp (rs := [8]) Try.func46 rfl Try.ntmps46 (by simp) rfl fun E => ?_
  have hl := h.len
  have hrow := h.get hs
  have hgi := iis_get (l := N) (i := s) (by omega)
  have hgc := ints_get (l := c) (i := s) (by omega)
  have hu : IntKind.u64.wrap 8 = 8 := rfl
  (repeat (first | refine awp_seq ?_ | refine awp_block ?_ | ((first | refine awp_skip ?_ | refine awp_exit ?_ | refine awp_reg ttok ?_ | (refine awp_draw ttok ?dr_calm ?_; (case dr_calm => decide +kernel)) | refine awp_condM ?_); simp (maxSteps := 4000000) only [↓reduceIte, Nat.reduceLT, Nat.reduceEqDiff, reduceCtorEq, Nat.reduceAdd, Nat.reduceMul, Int.reduceLE, Int.reduceLT, Int.reduceToNat, Nat.reduceLeDiff, Nat.reduceSub, Int.reduceEq, Nat.reduceBEq, List.replicate, List.set, if_false, if_true, ne_eq, false_implies, implies_true, evA, tyA, dfaD]; (repeat (with_reducible refine And.intro ?_ ?_; focus ((repeat' with_reducible apply And.intro) <;> (first | omega | with_reducible trivial | with_reducible assumption)))); (with_reducible first | refine awp_id ?_ | refine id_call ?_ | refine id_and ?_ | refine id_ex ?_ | refine id_all ?_ | refine id_nat ?_ | refine id_le ?_))))
  refine awp_drawG ttok ((0, none) :: (1, none) :: (2, none) :: (3, none) :: (4, none) :: (5, none) :: (6, none) :: (7, none) :: (8, none) :: (9, none) :: (10, none) :: (11, some []) :: (12, none) :: []) ([]) ([]) (by decide +kernel) fun O hO => ?_; simp only [OpsAre, Nat.reduceAdd, and_true, List.toList_toArray, List.append_eq, List.cons_append, List.nil_append] at hO; simp (maxSteps := 4000000) only [↓reduceIte, Nat.reduceLT, Nat.reduceEqDiff, reduceCtorEq, Nat.reduceAdd, Nat.reduceMul, Int.reduceLE, Int.reduceLT, Int.reduceToNat, Nat.reduceLeDiff, Nat.reduceSub, Int.reduceEq, Nat.reduceBEq, List.replicate, List.set, if_false, if_true, ne_eq, false_implies, implies_true, evA, tyA, hO, hgc, hc]; (repeat (with_reducible refine And.intro ?_ ?_; focus ((repeat' with_reducible apply And.intro) <;> (first | omega | with_reducible trivial | with_reducible assumption))))
  (repeat (first | refine awp_seq ?_ | refine awp_block ?_ | ((first | refine awp_skip ?_ | refine awp_exit ?_ | refine awp_reg ttok ?_ | (refine awp_draw ttok ?dr_calm ?_; (case dr_calm => decide +kernel)) | refine awp_condM ?_); simp (maxSteps := 4000000) only [↓reduceIte, Nat.reduceLT, Nat.reduceEqDiff, reduceCtorEq, Nat.reduceAdd, Nat.reduceMul, Int.reduceLE, Int.reduceLT, Int.reduceToNat, Nat.reduceLeDiff, Nat.reduceSub, Int.reduceEq, Nat.reduceBEq, List.replicate, List.set, if_false, if_true, ne_eq, false_implies, implies_true, evA, tyA, hgi, iis_len, hl, ints_len, hrow.1]; (repeat (with_reducible refine And.intro ?_ ?_; focus ((repeat' with_reducible apply And.intro) <;> (first | omega | with_reducible trivial | with_reducible assumption)))); (with_reducible first | refine awp_id ?_ | refine id_call ?_ | refine id_and ?_ | refine id_ex ?_ | refine id_all ?_ | refine id_nat ?_ | refine id_le ?_))))
  have r2 : ∀ x y : Int, [[D.v (Value.int IntKind.u8 (IntKind.u8.wrap x))], [D.v (Value.int IntKind.u8 (IntKind.u8.wrap (y.fdiv (2 ^ min 8 IntKind.i64.bits))))]] = bys [kLo x, kHi y] := fun x y => by rw [kLo_val, kHi_val]; rfl
  refine awp_loop (X := Nat) (fun j => mkS 58 [(1, .sl f (ints c)), (2, .sl g (bos lv)), (9, .own 2011 0 (kBy (c.getD s 0 :: ((N.getD s []).take j).map (kTo lv c))).length), (29, .sl false (ints (N.getD s []))), (30, i64 L), (31, i64 j)] [(2011, { sz := 1, rows := bys (kBy (c.getD s 0 :: ((N.getD s []).take j).map (kTo lv c))) })]) (fun j => j ≤ L) (fun j => L - j) 0 (Nat.zero_le _) (mkS_le rfl ?_ ?_) ?_
  · simp (maxSteps := 4000000) only [↓reduceIte, Nat.reduceLT, Nat.reduceEqDiff, reduceCtorEq, Nat.reduceAdd, Nat.reduceMul, Int.reduceLE, Int.reduceLT, Int.reduceToNat, Nat.reduceLeDiff, Nat.reduceSub, Int.reduceEq, Nat.reduceBEq, List.replicate, List.set, if_false, if_true, ne_eq, false_implies, implies_true, evA, kBy_len]
    try rfl
  · simp (maxSteps := 4000000) only [↓reduceIte, Nat.reduceLT, Nat.reduceEqDiff, reduceCtorEq, Nat.reduceAdd, Nat.reduceMul, Int.reduceLE, Int.reduceLT, Int.reduceToNat, Nat.reduceLeDiff, Nat.reduceSub, Int.reduceEq, Nat.reduceBEq, List.replicate, List.set, if_false, if_true, ne_eq, false_implies, implies_true, evA, r2]
    try rfl
  · intro j hj
    by_cases hlt : j < L
    · have d1 : decide ((j : Int) < (L : Int)) = true := by simpa using hlt
      have hwi : IntKind.i64.wrap ((j : Int) + 1) = ((j + 1 : Nat) : Int) := i64_in (by omega) (by omega)
      have hgj := ints_get (l := N.getD s []) (i := j) (by omega)
      have hst : c.getD s 0 :: ((N.getD s []).take (j + 1)).map (kTo lv c) = (c.getD s 0 :: ((N.getD s []).take j).map (kTo lv c)) ++ [kTo lv c ((N.getD s []).getD j 0)] := by
        rw [take_snoc (by omega) 0]; simp
      have hbl := kBy_len (c.getD s 0 :: ((N.getD s []).take j).map (kTo lv c))
      have hml : (c.getD s 0 :: ((N.getD s []).take j).map (kTo lv c)).length ≤ L + 1 := by simp; omega
      have hx : -1 ≤ (N.getD s []).getD j 0 ∧ (N.getD s []).getD j 0 < (k : Int) := by
        have hc' : j < (N.getD s []).length := by omega
        have e : (N.getD s []).getD j 0 = (N.getD s [])[j] := by
          generalize N.getD s [] = w at hc' ⊢
          simp [List.getD, List.getElem?_eq_getElem hc']
        rw [e]; exact hrow.2 _ (List.getElem_mem _)
      have hr1 := hrow.1
      generalize (c.getD s 0 :: ((N.getD s []).take j).map (kTo lv c)) = B at *
      generalize (N.getD s []).getD j 0 = x at *
      have hsh : ∀ z : Int, IntKind.i64.wrap z = IntKind.i64.wrap z := fun _ => rfl
      have htk : List.take (kBy B).length (kBy B) = kBy B := List.take_of_length_le (Nat.le_refl _)
      by_cases hx0 : x ≥ 0
      · obtain ⟨y, rfl⟩ := Int.eq_ofNat_of_zero_le hx0
        have e1 : decide (((y : Nat) : Int) ≥ 0) = true := by simp
        have hgb := bos_get (l := lv) (i := y) (by omega)
        have hgcy := ints_get (l := c) (i := y) (by omega)
        cases hq : lv.getD y false
        · rw [hq] at hgb
          have hkt : kTo lv c ((y : Nat) : Int) = -1 := by unfold kTo; rw [Int.toNat_natCast, hq, Bool.and_false, if_neg (by simp)]
          rw [hkt] at hst
          (repeat (first | refine awp_seq ?_ | refine awp_block ?_ | ((first | refine awp_skip ?_ | refine awp_exit ?_ | refine awp_reg ttok ?_ | (refine awp_draw ttok ?dr_calm ?_; (case dr_calm => decide +kernel)) | refine awp_condM ?_); simp (maxSteps := 4000000) only [↓reduceIte, Nat.reduceLT, Nat.reduceEqDiff, reduceCtorEq, Nat.reduceAdd, Nat.reduceMul, Int.reduceLE, Int.reduceLT, Int.reduceToNat, Nat.reduceLeDiff, Nat.reduceSub, Int.reduceEq, Nat.reduceBEq, List.replicate, List.set, if_false, if_true, ne_eq, false_implies, implies_true, evA, tyA, d1, hgj, ints_len, hr1, e1, bos_len, hlv, hc, hgb, hwi, r2, htk]; (repeat (with_reducible refine And.intro ?_ ?_; focus ((repeat' with_reducible apply And.intro) <;> (first | omega | with_reducible trivial | with_reducible assumption)))); (with_reducible first | refine awp_id ?_ | refine id_call ?_ | refine id_and ?_ | refine id_ex ?_ | refine id_all ?_ | refine id_nat ?_ | refine id_le ?_))))
          refine ⟨j + 1, by omega, by omega, mkS_le rfl ?_ ?_⟩
          · simp (maxSteps := 4000000) only [↓reduceIte, Nat.reduceLT, Nat.reduceEqDiff, reduceCtorEq, Nat.reduceAdd, Nat.reduceMul, Int.reduceLE, Int.reduceLT, Int.reduceToNat, Nat.reduceLeDiff, Nat.reduceSub, Int.reduceEq, Nat.reduceBEq, List.replicate, List.set, if_false, if_true, ne_eq, false_implies, implies_true, evA, hst, kBy_snoc, List.length_append]
            try rfl
          · simp (maxSteps := 4000000) only [↓reduceIte, Nat.reduceLT, Nat.reduceEqDiff, reduceCtorEq, Nat.reduceAdd, Nat.reduceMul, Int.reduceLE, Int.reduceLT, Int.reduceToNat, Nat.reduceLeDiff, Nat.reduceSub, Int.reduceEq, Nat.reduceBEq, List.replicate, List.set, if_false, if_true, ne_eq, false_implies, implies_true, evA, hst, kBy_snoc]
        · rw [hq] at hgb
          have hkt : kTo lv c ((y : Nat) : Int) = c.getD y 0 := by unfold kTo; rw [Int.toNat_natCast, hq, Bool.and_true, if_pos (by simp)]
          rw [hkt] at hst
          (repeat (first | refine awp_seq ?_ | refine awp_block ?_ | ((first | refine awp_skip ?_ | refine awp_exit ?_ | refine awp_reg ttok ?_ | (refine awp_draw ttok ?dr_calm ?_; (case dr_calm => decide +kernel)) | refine awp_condM ?_); simp (maxSteps := 4000000) only [↓reduceIte, Nat.reduceLT, Nat.reduceEqDiff, reduceCtorEq, Nat.reduceAdd, Nat.reduceMul, Int.reduceLE, Int.reduceLT, Int.reduceToNat, Nat.reduceLeDiff, Nat.reduceSub, Int.reduceEq, Nat.reduceBEq, List.replicate, List.set, if_false, if_true, ne_eq, false_implies, implies_true, evA, tyA, d1, hgj, ints_len, hr1, e1, bos_len, hlv, hc, hgb, hgcy, hwi, r2, htk]; (repeat (with_reducible refine And.intro ?_ ?_; focus ((repeat' with_reducible apply And.intro) <;> (first | omega | with_reducible trivial | with_reducible assumption)))); (with_reducible first | refine awp_id ?_ | refine id_call ?_ | refine id_and ?_ | refine id_ex ?_ | refine id_all ?_ | refine id_nat ?_ | refine id_le ?_))))
          refine ⟨j + 1, by omega, by omega, mkS_le rfl ?_ ?_⟩
          · simp (maxSteps := 4000000) only [↓reduceIte, Nat.reduceLT, Nat.reduceEqDiff, reduceCtorEq, Nat.reduceAdd, Nat.reduceMul, Int.reduceLE, Int.reduceLT, Int.reduceToNat, Nat.reduceLeDiff, Nat.reduceSub, Int.reduceEq, Nat.reduceBEq, List.replicate, List.set, if_false, if_true, ne_eq, false_implies, implies_true, evA, hst, kBy_snoc, List.length_append]
            try rfl
          · simp (maxSteps := 4000000) only [↓reduceIte, Nat.reduceLT, Nat.reduceEqDiff, reduceCtorEq, Nat.reduceAdd, Nat.reduceMul, Int.reduceLE, Int.reduceLT, Int.reduceToNat, Nat.reduceLeDiff, Nat.reduceSub, Int.reduceEq, Nat.reduceBEq, List.replicate, List.set, if_false, if_true, ne_eq, false_implies, implies_true, evA, hst, kBy_snoc]
      · have e1 : decide (x ≥ 0) = false := by simpa using hx0
        have hkt : kTo lv c x = -1 := by unfold kTo; rw [e1, Bool.false_and, if_neg (by simp)]
        rw [hkt] at hst
        (repeat (first | refine awp_seq ?_ | refine awp_block ?_ | ((first | refine awp_skip ?_ | refine awp_exit ?_ | refine awp_reg ttok ?_ | (refine awp_draw ttok ?dr_calm ?_; (case dr_calm => decide +kernel)) | refine awp_condM ?_); simp (maxSteps := 4000000) only [↓reduceIte, Nat.reduceLT, Nat.reduceEqDiff, reduceCtorEq, Nat.reduceAdd, Nat.reduceMul, Int.reduceLE, Int.reduceLT, Int.reduceToNat, Nat.reduceLeDiff, Nat.reduceSub, Int.reduceEq, Nat.reduceBEq, List.replicate, List.set, if_false, if_true, ne_eq, false_implies, implies_true, evA, tyA, d1, hgj, ints_len, hr1, e1, hwi, r2, htk]; (repeat (with_reducible refine And.intro ?_ ?_; focus ((repeat' with_reducible apply And.intro) <;> (first | omega | with_reducible trivial | with_reducible assumption)))); (with_reducible first | refine awp_id ?_ | refine id_call ?_ | refine id_and ?_ | refine id_ex ?_ | refine id_all ?_ | refine id_nat ?_ | refine id_le ?_))))
        refine ⟨j + 1, by omega, by omega, mkS_le rfl ?_ ?_⟩
        · simp (maxSteps := 4000000) only [↓reduceIte, Nat.reduceLT, Nat.reduceEqDiff, reduceCtorEq, Nat.reduceAdd, Nat.reduceMul, Int.reduceLE, Int.reduceLT, Int.reduceToNat, Nat.reduceLeDiff, Nat.reduceSub, Int.reduceEq, Nat.reduceBEq, List.replicate, List.set, if_false, if_true, ne_eq, false_implies, implies_true, evA, hst, kBy_snoc, List.length_append]
          try rfl
        · simp (maxSteps := 4000000) only [↓reduceIte, Nat.reduceLT, Nat.reduceEqDiff, reduceCtorEq, Nat.reduceAdd, Nat.reduceMul, Int.reduceLE, Int.reduceLT, Int.reduceToNat, Nat.reduceLeDiff, Nat.reduceSub, Int.reduceEq, Nat.reduceBEq, List.replicate, List.set, if_false, if_true, ne_eq, false_implies, implies_true, evA, hst, kBy_snoc]
    · have d1 : decide ((j : Int) < (L : Int)) = false := by simpa using hlt
      obtain rfl : j = L := by omega
      have hft : (N.getD s []).take j = N.getD s [] := List.take_of_length_le (by have := hrow.1; omega)
      rw [hft]
      (repeat (first | refine awp_seq ?_ | refine awp_block ?_ | ((first | refine awp_skip ?_ | refine awp_exit ?_ | refine awp_reg ttok ?_ | (refine awp_draw ttok ?dr_calm ?_; (case dr_calm => decide +kernel)) | refine awp_condM ?_); simp (maxSteps := 4000000) only [↓reduceIte, Nat.reduceLT, Nat.reduceEqDiff, reduceCtorEq, Nat.reduceAdd, Nat.reduceMul, Int.reduceLE, Int.reduceLT, Int.reduceToNat, Nat.reduceLeDiff, Nat.reduceSub, Int.reduceEq, Nat.reduceBEq, List.replicate, List.set, if_false, if_true, ne_eq, false_implies, implies_true, evA, tyA, d1]; (repeat (with_reducible refine And.intro ?_ ?_; focus ((repeat' with_reducible apply And.intro) <;> (first | omega | with_reducible trivial | with_reducible assumption)))); (with_reducible first | refine awp_id ?_ | refine id_call ?_ | refine id_and ?_ | refine id_ex ?_ | refine id_all ?_ | refine id_nat ?_ | refine id_le ?_))))
      refine awp_ret (ends_plain (.inr rfl) rfl ?_)
      simp (maxSteps := 4000000) only [↓reduceIte, Nat.reduceLT, Nat.reduceEqDiff, reduceCtorEq, Nat.reduceAdd, Nat.reduceMul, Int.reduceLE, Int.reduceLT, Int.reduceToNat, Nat.reduceLeDiff, Nat.reduceSub, Int.reduceEq, Nat.reduceBEq, List.replicate, List.set, if_false, if_true, ne_eq, false_implies, implies_true, evA, keyL, kStr, List.take_of_length_le (Nat.le_refl _)]

end Go.Proofs.Ytcfnbofapjgepaa
