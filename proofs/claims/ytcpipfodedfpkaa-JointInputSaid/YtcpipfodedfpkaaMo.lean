import Derived.Test.YtcpipfodedfpkaaDt
import Derived.Test.YtcpipfodedfpkaaClo
set_option linter.unusedSimpArgs false
set_option linter.unusedVariables false
namespace Go.Proofs.Ytcpipfodedfpkaa
open Go.Ab
def kLo (x : Int) : UInt8 := UInt8.ofNat (IntKind.u8.wrap x).toNat
def kHi (x : Int) : UInt8 := UInt8.ofNat (IntKind.u8.wrap (x.fdiv (2 ^ min 8 IntKind.i64.bits))).toNat
theorem wrap_u8 (x : Int) : IntKind.u8.wrap x = x % 256 := by
  simp only [IntKind.wrap, IntKind.bits, IntKind.signed, Bool.false_eq_true, if_false]
  rfl
theorem u8_back (x : Int) : ((UInt8.ofNat (x % 256).toNat).toNat : Int) = x % 256 := by
  have h1 : 0 ≤ x % 256 := Int.emod_nonneg _ (by decide)
  have h2 : x % 256 < 256 := Int.emod_lt_of_pos _ (by decide)
  rw [UInt8.toNat_ofNat']
  omega
theorem kLo_val (x : Int) : D.v (.int .u8 (IntKind.u8.wrap x)) = u8 (kLo x) := by
  rw [u8, kLo, wrap_u8, u8_back]
theorem kHi_val (x : Int) : D.v (.int .u8 (IntKind.u8.wrap (x.fdiv (2 ^ min 8 IntKind.i64.bits)))) = u8 (kHi x) := by
  rw [u8, kHi, wrap_u8, u8_back]
theorem kLH {x y : Int} (hx : -1 ≤ x ∧ x < 65535) (hy : -1 ≤ y ∧ y < 65535) (h1 : kLo x = kLo y) (h2 : kHi x = kHi y) : x = y := by
  have m : min 8 IntKind.i64.bits = 8 := rfl
  have e1 : x % 256 = y % 256 := by
    rw [← u8_back x, ← u8_back y, ← wrap_u8, ← wrap_u8]
    exact congrArg (fun b : UInt8 => ((b.toNat : Nat) : Int)) h1
  have e2 : (x / 256) % 256 = (y / 256) % 256 := by
    unfold kHi at h2
    rw [m, wrap_u8, wrap_u8] at h2
    have := congrArg (fun b : UInt8 => ((b.toNat : Nat) : Int)) h2
    simp only [u8_back] at this
    rw [Int.fdiv_eq_ediv_of_nonneg _ (by decide), Int.fdiv_eq_ediv_of_nonneg _ (by decide)] at this
    exact this
  omega
def kBy (l : List Int) : List UInt8 := l.flatMap fun x => [kLo x, kHi x]
def kStr (l : List Int) : ByteArray := ⟨(kBy l).toArray⟩
theorem kBy_snoc (l : List Int) (x : Int) : kBy (l ++ [x]) = kBy l ++ [kLo x, kHi x] := by simp [kBy]
theorem kBy_len (l : List Int) : (kBy l).length = 2 * l.length := by
  induction l with
  | nil => rfl
  | cons x l ih => rw [kBy, List.flatMap_cons, List.length_append, show (l.flatMap fun x => [kLo x, kHi x]) = kBy l from rfl, ih]; simp; omega
theorem kBy_inj : ∀ {l m : List Int}, (∀ x ∈ l, -1 ≤ x ∧ x < 65535) → (∀ x ∈ m, -1 ≤ x ∧ x < 65535) → kBy l = kBy m → l = m
  | [], [], _, _, _ => rfl
  | [], _ :: _, _, _, h => by simp [kBy] at h
  | _ :: _, [], _, _, h => by simp [kBy] at h
  | x :: l, y :: m, hl, hm, h => by
    simp only [kBy, List.flatMap_cons, List.cons_append, List.nil_append, List.cons.injEq] at h
    obtain ⟨h1, h2, h3⟩ := h
    rw [kLH (hl x (by simp)) (hm y (by simp)) h1 h2, kBy_inj (fun z hz => hl z (by simp [hz])) (fun z hz => hm z (by simp [hz])) h3]
theorem kStr_eq {l m : List Int} (hl : ∀ x ∈ l, -1 ≤ x ∧ x < 65535) (hm : ∀ x ∈ m, -1 ≤ x ∧ x < 65535) : (kStr l == kStr m) = (l == m) := by
  rw [Bool.eq_iff_iff, Go.MapKept.bytes_beq, beq_iff_eq]
  constructor
  · intro h
    have : (kBy l).toArray = (kBy m).toArray := congrArg ByteArray.data h
    exact kBy_inj hl hm (by simpa using congrArg Array.toList this)
  · rintro rfl; rfl
def kTo (lv : List Bool) (c : List Int) (t : Int) : Int := if (decide (t ≥ 0) && lv.getD t.toNat false) = true then c.getD t.toNat 0 else -1
def keyL (N : List (List Int)) (lv : List Bool) (c : List Int) (s : Nat) : List Int := c.getD s 0 :: (N.getD s []).map (kTo lv c)
set_option maxRecDepth 20000 in
set_option maxHeartbeats 16000000 in
theorem c_key {L k : Nat} {N : List (List Int)} (h : NOk L k N) (st : Nat) (f g : Bool) (F lv : List Bool) (c : List Int) (hlv : lv.length = k) (hc : c.length = k) (hL : L ≤ 100000) (hk : k ≤ 2000) (s : Nat) (hs : s < k) :
    Contract Try.prog 91 [dfaD L st F N, .sl f (ints c), .sl g (bos lv), i64 s] (.v (.string (kStr (keyL N lv c s)))) [] := by
  refine contract_of_awp (rs := [8]) Try.func91 rfl Try.ntmps91 (by simp) rfl fun E => ?_
  have hl := h.len
  have hrow := h.get hs
  have hgi := iis_get (l := N) (i := s) (by omega)
  have hgc := ints_get (l := c) (i := s) (by omega)
  have hu : IntKind.u64.wrap 8 = 8 := rfl
  (repeat (first | refine awp_seq ?_ | refine awp_block ?_ | ((first | refine awp_skip ?_ | refine awp_exit ?_ | refine awp_reg ttok ?_ | (refine awp_draw ttok ?dr_calm ?_; (case dr_calm => decide +kernel)) | refine awp_condM ?_); simp (maxSteps := 4000000) only [↓reduceIte, Nat.reduceLT, Nat.reduceEqDiff, reduceCtorEq, Nat.reduceAdd, Nat.reduceMul, Int.reduceLE, Int.reduceLT, Int.reduceToNat, Nat.reduceLeDiff, Nat.reduceSub, Int.reduceEq, Nat.reduceBEq, List.replicate, List.set, evB, tyA, dfaD]; (repeat (with_reducible refine And.intro ?_ ?_; exact sdX)); (with_reducible first | refine awp_id ?_ | refine id_call ?_ | refine id_and ?_ | refine id_ex ?_ | refine id_all ?_ | refine id_nat ?_ | refine id_le ?_))))
  refine awp_drawG ttok ((0, none) :: (1, none) :: (2, none) :: (3, none) :: (4, none) :: (5, none) :: (6, none) :: (7, none) :: (8, none) :: (9, none) :: (10, none) :: (11, some []) :: (12, none) :: []) ([]) ([]) (by decide +kernel) fun O hO => ?_; simp only [OpsAre, Nat.reduceAdd, and_true, List.toList_toArray, List.append_eq, List.cons_append, List.nil_append] at hO; simp (maxSteps := 4000000) only [↓reduceIte, Nat.reduceLT, Nat.reduceEqDiff, reduceCtorEq, Nat.reduceAdd, Nat.reduceMul, Int.reduceLE, Int.reduceLT, Int.reduceToNat, Nat.reduceLeDiff, Nat.reduceSub, Int.reduceEq, Nat.reduceBEq, List.replicate, List.set, evB, tyA, hO, hgc, hc]; (repeat (with_reducible refine And.intro ?_ ?_; exact sdX))
  (repeat (first | refine awp_seq ?_ | refine awp_block ?_ | ((first | refine awp_skip ?_ | refine awp_exit ?_ | refine awp_reg ttok ?_ | (refine awp_draw ttok ?dr_calm ?_; (case dr_calm => decide +kernel)) | refine awp_condM ?_); simp (maxSteps := 4000000) only [↓reduceIte, Nat.reduceLT, Nat.reduceEqDiff, reduceCtorEq, Nat.reduceAdd, Nat.reduceMul, Int.reduceLE, Int.reduceLT, Int.reduceToNat, Nat.reduceLeDiff, Nat.reduceSub, Int.reduceEq, Nat.reduceBEq, List.replicate, List.set, evB, tyA, hgi, iis_len, hl, ints_len, hrow.1]; (repeat (with_reducible refine And.intro ?_ ?_; exact sdX)); (with_reducible first | refine awp_id ?_ | refine id_call ?_ | refine id_and ?_ | refine id_ex ?_ | refine id_all ?_ | refine id_nat ?_ | refine id_le ?_))))
  have r2 : ∀ x y : Int, [[D.v (Value.int IntKind.u8 (IntKind.u8.wrap x))], [D.v (Value.int IntKind.u8 (IntKind.u8.wrap (y.fdiv (2 ^ min 8 IntKind.i64.bits))))]] = bys [kLo x, kHi y] := fun x y => by rw [kLo_val, kHi_val]; rfl
  refine awp_loop (X := Nat) (fun j => mkS 58 [(1, .sl f (ints c)), (2, .sl g (bos lv)), (9, .own 2011 0 (kBy (c.getD s 0 :: ((N.getD s []).take j).map (kTo lv c))).length), (29, .sl false (ints (N.getD s []))), (30, i64 L), (31, i64 j)] [(2011, { sz := 1, rows := bys (kBy (c.getD s 0 :: ((N.getD s []).take j).map (kTo lv c))) })]) (fun j => j ≤ L) (fun j => L - j) 0 (Nat.zero_le _) (mkS_le rfl ?_ ?_) ?_
  · simp (maxSteps := 4000000) only [↓reduceIte, Nat.reduceLT, Nat.reduceEqDiff, reduceCtorEq, Nat.reduceAdd, Nat.reduceMul, Int.reduceLE, Int.reduceLT, Int.reduceToNat, Nat.reduceLeDiff, Nat.reduceSub, Int.reduceEq, Nat.reduceBEq, List.replicate, List.set, evB, kBy_len]
    try rfl
  · simp (maxSteps := 4000000) only [↓reduceIte, Nat.reduceLT, Nat.reduceEqDiff, reduceCtorEq, Nat.reduceAdd, Nat.reduceMul, Int.reduceLE, Int.reduceLT, Int.reduceToNat, Nat.reduceLeDiff, Nat.reduceSub, Int.reduceEq, Nat.reduceBEq, List.replicate, List.set, evB, r2]
    try rfl
  · intro j hj
    by_cases hlt : j < L
    · have d1 : decide ((j : Int) < (L : Int)) = true := by simpa using hlt
      have hwi : IntKind.i64.wrap ((j : Int) + 1) = ((j + 1 : Nat) : Int) := i64_in (by omega) (by omega)
      have hgj := ints_get (l := N.getD s []) (i := j) (by omega)
      have hst : c.getD s 0 :: ((N.getD s []).take (j + 1)).map (kTo lv c) = (c.getD s 0 :: ((N.getD s []).take j).map (kTo lv c)) ++ [kTo lv c ((N.getD s []).getD j 0)] := by
        rw [take_snoc (by omega) 0]; simp
      have hbl := kBy_len (c.getD s 0 :: ((N.getD s []).take j).map (kTo lv c))
      have hml : (c.getD s 0 :: ((N.getD s []).take j).map (kTo lv c)).length ≤ L + 1 := by simp; omega
      have hx : -1 ≤ (N.getD s []).getD j 0 ∧ (N.getD s []).getD j 0 < (k : Int) := by
        have hc' : j < (N.getD s []).length := by omega
        have e : (N.getD s []).getD j 0 = (N.getD s [])[j] := by
          generalize N.getD s [] = w at hc' ⊢
          simp [List.getD, List.getElem?_eq_getElem hc']
        rw [e]; exact hrow.2 _ (List.getElem_mem _)
      have hr1 := hrow.1
      generalize (c.getD s 0 :: ((N.getD s []).take j).map (kTo lv c)) = B at *
      generalize (N.getD s []).getD j 0 = x at *
      have hsh : ∀ z : Int, IntKind.i64.wrap z = IntKind.i64.wrap z := fun _ => rfl
      have htk : List.take (kBy B).length (kBy B) = kBy B := List.take_of_length_le (Nat.le_refl _)
      by_cases hx0 : x ≥ 0
      · obtain ⟨y, rfl⟩ := Int.eq_ofNat_of_zero_le hx0
        have e1 : decide (((y : Nat) : Int) ≥ 0) = true := by simp
        have hgb := bos_get (l := lv) (i := y) (by omega)
        have hgcy := ints_get (l := c) (i := y) (by omega)
        cases hq : lv.getD y false
        · rw [hq] at hgb
          have hkt : kTo lv c ((y : Nat) : Int) = -1 := by unfold kTo; rw [Int.toNat_natCast, hq, Bool.and_false, if_neg (by simp)]
          rw [hkt] at hst
          (repeat (first | refine awp_seq ?_ | refine awp_block ?_ | ((first | refine awp_skip ?_ | refine awp_exit ?_ | refine awp_reg ttok ?_ | (refine awp_draw ttok ?dr_calm ?_; (case dr_calm => decide +kernel)) | refine awp_condM ?_); simp (maxSteps := 4000000) only [↓reduceIte, Nat.reduceLT, Nat.reduceEqDiff, reduceCtorEq, Nat.reduceAdd, Nat.reduceMul, Int.reduceLE, Int.reduceLT, Int.reduceToNat, Nat.reduceLeDiff, Nat.reduceSub, Int.reduceEq, Nat.reduceBEq, List.replicate, List.set, evB, tyA, d1, hgj, ints_len, hr1, e1, bos_len, hlv, hc, hgb, hwi, r2, htk]; (repeat (with_reducible refine And.intro ?_ ?_; exact sdX)); (with_reducible first | refine awp_id ?_ | refine id_call ?_ | refine id_and ?_ | refine id_ex ?_ | refine id_all ?_ | refine id_nat ?_ | refine id_le ?_))))
          refine ⟨j + 1, by omega, by omega, mkS_le rfl ?_ ?_⟩
          · simp (maxSteps := 4000000) only [↓reduceIte, Nat.reduceLT, Nat.reduceEqDiff, reduceCtorEq, Nat.reduceAdd, Nat.reduceMul, Int.reduceLE, Int.reduceLT, Int.reduceToNat, Nat.reduceLeDiff, Nat.reduceSub, Int.reduceEq, Nat.reduceBEq, List.replicate, List.set, evB, hst, kBy_snoc, List.length_append]
            try rfl
          · simp (maxSteps := 4000000) only [↓reduceIte, Nat.reduceLT, Nat.reduceEqDiff, reduceCtorEq, Nat.reduceAdd, Nat.reduceMul, Int.reduceLE, Int.reduceLT, Int.reduceToNat, Nat.reduceLeDiff, Nat.reduceSub, Int.reduceEq, Nat.reduceBEq, List.replicate, List.set, evB, hst, kBy_snoc]
        · rw [hq] at hgb
          have hkt : kTo lv c ((y : Nat) : Int) = c.getD y 0 := by unfold kTo; rw [Int.toNat_natCast, hq, Bool.and_true, if_pos (by simp)]
          rw [hkt] at hst
          (repeat (first | refine awp_seq ?_ | refine awp_block ?_ | ((first | refine awp_skip ?_ | refine awp_exit ?_ | refine awp_reg ttok ?_ | (refine awp_draw ttok ?dr_calm ?_; (case dr_calm => decide +kernel)) | refine awp_condM ?_); simp (maxSteps := 4000000) only [↓reduceIte, Nat.reduceLT, Nat.reduceEqDiff, reduceCtorEq, Nat.reduceAdd, Nat.reduceMul, Int.reduceLE, Int.reduceLT, Int.reduceToNat, Nat.reduceLeDiff, Nat.reduceSub, Int.reduceEq, Nat.reduceBEq, List.replicate, List.set, evB, tyA, d1, hgj, ints_len, hr1, e1, bos_len, hlv, hc, hgb, hgcy, hwi, r2, htk]; (repeat (with_reducible refine And.intro ?_ ?_; exact sdX)); (with_reducible first | refine awp_id ?_ | refine id_call ?_ | refine id_and ?_ | refine id_ex ?_ | refine id_all ?_ | refine id_nat ?_ | refine id_le ?_))))
          refine ⟨j + 1, by omega, by omega, mkS_le rfl ?_ ?_⟩
          · simp (maxSteps := 4000000) only [↓reduceIte, Nat.reduceLT, Nat.reduceEqDiff, reduceCtorEq, Nat.reduceAdd, Nat.reduceMul, Int.reduceLE, Int.reduceLT, Int.reduceToNat, Nat.reduceLeDiff, Nat.reduceSub, Int.reduceEq, Nat.reduceBEq, List.replicate, List.set, evB, hst, kBy_snoc, List.length_append]
            try rfl
          · simp (maxSteps := 4000000) only [↓reduceIte, Nat.reduceLT, Nat.reduceEqDiff, reduceCtorEq, Nat.reduceAdd, Nat.reduceMul, Int.reduceLE, Int.reduceLT, Int.reduceToNat, Nat.reduceLeDiff, Nat.reduceSub, Int.reduceEq, Nat.reduceBEq, List.replicate, List.set, evB, hst, kBy_snoc]
      · have e1 : decide (x ≥ 0) = false := by simpa using hx0
        have hkt : kTo lv c x = -1 := by unfold kTo; rw [e1, Bool.false_and, if_neg (by simp)]
        rw [hkt] at hst
        (repeat (first | refine awp_seq ?_ | refine awp_block ?_ | ((first | refine awp_skip ?_ | refine awp_exit ?_ | refine awp_reg ttok ?_ | (refine awp_draw ttok ?dr_calm ?_; (case dr_calm => decide +kernel)) | refine awp_condM ?_); simp (maxSteps := 4000000) only [↓reduceIte, Nat.reduceLT, Nat.reduceEqDiff, reduceCtorEq, Nat.reduceAdd, Nat.reduceMul, Int.reduceLE, Int.reduceLT, Int.reduceToNat, Nat.reduceLeDiff, Nat.reduceSub, Int.reduceEq, Nat.reduceBEq, List.replicate, List.set, evB, tyA, d1, hgj, ints_len, hr1, e1, hwi, r2, htk]; (repeat (with_reducible refine And.intro ?_ ?_; exact sdX)); (with_reducible first | refine awp_id ?_ | refine id_call ?_ | refine id_and ?_ | refine id_ex ?_ | refine id_all ?_ | refine id_nat ?_ | refine id_le ?_))))
        refine ⟨j + 1, by omega, by omega, mkS_le rfl ?_ ?_⟩
        · simp (maxSteps := 4000000) only [↓reduceIte, Nat.reduceLT, Nat.reduceEqDiff, reduceCtorEq, Nat.reduceAdd, Nat.reduceMul, Int.reduceLE, Int.reduceLT, Int.reduceToNat, Nat.reduceLeDiff, Nat.reduceSub, Int.reduceEq, Nat.reduceBEq, List.replicate, List.set, evB, hst, kBy_snoc, List.length_append]
          try rfl
        · simp (maxSteps := 4000000) only [↓reduceIte, Nat.reduceLT, Nat.reduceEqDiff, reduceCtorEq, Nat.reduceAdd, Nat.reduceMul, Int.reduceLE, Int.reduceLT, Int.reduceToNat, Nat.reduceLeDiff, Nat.reduceSub, Int.reduceEq, Nat.reduceBEq, List.replicate, List.set, evB, hst, kBy_snoc]
    · have d1 : decide ((j : Int) < (L : Int)) = false := by simpa using hlt
      obtain rfl : j = L := by omega
      have hft : (N.getD s []).take j = N.getD s [] := List.take_of_length_le (by have := hrow.1; omega)
      rw [hft]
      (repeat (first | refine awp_seq ?_ | refine awp_block ?_ | ((first | refine awp_skip ?_ | refine awp_exit ?_ | refine awp_reg ttok ?_ | (refine awp_draw ttok ?dr_calm ?_; (case dr_calm => decide +kernel)) | refine awp_condM ?_); simp (maxSteps := 4000000) only [↓reduceIte, Nat.reduceLT, Nat.reduceEqDiff, reduceCtorEq, Nat.reduceAdd, Nat.reduceMul, Int.reduceLE, Int.reduceLT, Int.reduceToNat, Nat.reduceLeDiff, Nat.reduceSub, Int.reduceEq, Nat.reduceBEq, List.replicate, List.set, evB, tyA, d1]; (repeat (with_reducible refine And.intro ?_ ?_; exact sdX)); (with_reducible first | refine awp_id ?_ | refine id_call ?_ | refine id_and ?_ | refine id_ex ?_ | refine id_all ?_ | refine id_nat ?_ | refine id_le ?_))))
      refine awp_ret (ends_plain (.inr rfl) rfl ?_)
      simp (maxSteps := 4000000) only [↓reduceIte, Nat.reduceLT, Nat.reduceEqDiff, reduceCtorEq, Nat.reduceAdd, Nat.reduceMul, Int.reduceLE, Int.reduceLT, Int.reduceToNat, Nat.reduceLeDiff, Nat.reduceSub, Int.reduceEq, Nat.reduceBEq, List.replicate, List.set, evB, keyL, kStr, List.take_of_length_le (Nat.le_refl _)]
def ixM {α : Type} (kf : α → Value) (ks : List α) (n : Nat) : List (Value × Value) := (ks.zipIdx n).map fun p => (kf p.1, .int .i64 (p.2 : Int))
theorem ixM_cons {α : Type} (kf : α → Value) (y : α) (ks : List α) (n : Nat) : ixM kf (y :: ks) n = (kf y, .int .i64 (n : Int)) :: ixM kf ks (n + 1) := by simp [ixM]
theorem ixM_len {α : Type} (kf : α → Value) (ks : List α) (n : Nat) : (ixM kf ks n).length = ks.length := by simp [ixM]
theorem mget_ix {α : Type} [BEq α] [LawfulBEq α] (kf : α → Value) (x : α) : ∀ (ks : List α) (n : Nat), (∀ y ∈ ks, keyEq (kf x) (kf y) = (y == x)) → mget (kf x) (ixM kf ks n) = if ks.contains x = true then some (.int .i64 ((n + ks.idxOf x : Nat) : Int)) else none
  | [], _, _ => rfl
  | y :: ks, n, h => by
    rw [ixM_cons, mget, h y (by simp), mget_ix kf x ks (n + 1) fun z hz => h z (by simp [hz]), List.contains_cons, List.idxOf_cons]
    have e : (x == y) = (y == x) := by rw [Bool.eq_iff_iff, beq_iff_eq, beq_iff_eq]; exact eq_comm
    rw [e]
    cases hq : (y == x)
    · simp only [Bool.false_eq_true, if_false, Bool.false_or, cond_false]
      rw [show n + 1 + ks.idxOf x = n + (ks.idxOf x + 1) by omega]
    · simp
theorem mset_ix {α : Type} [BEq α] [LawfulBEq α] (kf : α → Value) (x : α) : ∀ (ks : List α) (n : Nat), (∀ y ∈ ks, keyEq (kf x) (kf y) = (y == x)) → ks.contains x = false → mset (kf x) (.int .i64 ((n + ks.length : Nat) : Int)) (ixM kf ks n) = ixM kf (ks ++ [x]) n
  | [], n, _, _ => by simp [ixM, mset]
  | y :: ks, n, h, hc => by
    rw [List.contains_cons, Bool.or_eq_false_iff] at hc
    have e : (y == x) = false := by rw [← hc.1, Bool.eq_iff_iff, beq_iff_eq, beq_iff_eq]; exact eq_comm
    rw [ixM_cons, mset, h y (by simp), e, List.cons_append, ixM_cons]
    simp only [Bool.false_eq_true, if_false]
    rw [← mset_ix kf x ks (n + 1) (fun z hz => h z (by simp [hz])) hc.2, List.length_cons, show n + 1 + ks.length = n + (ks.length + 1) by omega]
def addK (ks : List (List Int)) (x : List Int) : List (List Int) := if ks.contains x = true then ks else ks ++ [x]
def kst (N : List (List Int)) (lv : List Bool) (c : List Int) : Nat → List (List Int)
  | 0 => []
  | i + 1 => if lv.getD i false = true then addK (kst N lv c i) (keyL N lv c i) else kst N lv c i
def kAll (N : List (List Int)) (lv : List Bool) (c : List Int) : List (List Int) := kst N lv c N.length
def refI (N : List (List Int)) (lv : List Bool) (c : List Int) (i : Nat) : Int := if lv.getD i false = true then (((kAll N lv c).idxOf (keyL N lv c i) : Nat) : Int) else -1
def refL (N : List (List Int)) (lv : List Bool) (c : List Int) : List Int := (List.range N.length).map (refI N lv c)
def cls0 (F lv : List Bool) : List Int := (List.range F.length).map fun i => if lv.getD i false = true then (if F.getD i false = true then 1 else 0) else -1
def clsR (F : List Bool) (N : List (List Int)) : Nat → List Int
  | 0 => cls0 F (liveL F N)
  | r + 1 => refL N (liveL F N) (clsR F N r)
def cntR (F : List Bool) (N : List (List Int)) (r : Nat) : Nat := (kAll N (liveL F N) (clsR F N r)).length
def clsF (F : List Bool) (N : List (List Int)) : List Int := clsR F N (F.length + 2)
section
variable {N : List (List Int)} {lv : List Bool} {c : List Int}
theorem kst_pre (i : Nat) : ∃ t, kst N lv c (i + 1) = kst N lv c i ++ t ∧ (lv.getD i false = true → keyL N lv c i ∈ kst N lv c (i + 1)) := by
  rw [kst]
  split
  · unfold addK
    split
    · rename_i h1 h2
      exact ⟨[], by simp, fun _ => by simpa using h2⟩
    · exact ⟨[keyL N lv c i], rfl, fun _ => by simp⟩
  · rename_i h
    exact ⟨[], by simp, fun q => absurd q h⟩
theorem kst_pre2 (i : Nat) : ∀ j, ∃ t, kst N lv c (i + j) = kst N lv c i ++ t
  | 0 => ⟨[], by simp⟩
  | j + 1 => by
    obtain ⟨t, h⟩ := kst_pre2 i j
    obtain ⟨u, h2, _⟩ := kst_pre (N := N) (lv := lv) (c := c) (i + j)
    exact ⟨t ++ u, by rw [← Nat.add_assoc, h2, h, List.append_assoc]⟩
theorem kst_all {i : Nat} (hi : i ≤ N.length) : ∃ t, kAll N lv c = kst N lv c i ++ t := by
  obtain ⟨t, h⟩ := kst_pre2 (N := N) (lv := lv) (c := c) i (N.length - i)
  rw [show i + (N.length - i) = N.length by omega] at h
  exact ⟨t, h⟩
theorem kst_len : ∀ i, (kst N lv c i).length ≤ i
  | 0 => Nat.le_refl _
  | i + 1 => by
    have := kst_len i
    rw [kst]
    split
    · unfold addK
      split <;> simp <;> omega
    · omega
theorem kst_in {x : List Int} : ∀ {i : Nat}, x ∈ kst N lv c i → ∃ j, j < i ∧ lv.getD j false = true ∧ x = keyL N lv c j
  | 0, h => by cases h
  | i + 1, h => by
    rw [kst] at h
    split at h
    · rename_i hl
      unfold addK at h
      split at h
      · obtain ⟨j, h1, h2⟩ := kst_in h
        exact ⟨j, by omega, h2⟩
      · rcases List.mem_append.1 h with q | q
        · obtain ⟨j, h1, h2⟩ := kst_in q
          exact ⟨j, by omega, h2⟩
        · rw [List.mem_singleton] at q
          exact ⟨i, by omega, hl, q⟩
    · obtain ⟨j, h1, h2⟩ := kst_in h
      exact ⟨j, by omega, h2⟩
theorem kAll_mem {i : Nat} (hi : i < N.length) (hl : lv.getD i false = true) : keyL N lv c i ∈ kAll N lv c := by
  obtain ⟨_, _, h⟩ := kst_pre (N := N) (lv := lv) (c := c) i
  obtain ⟨t, ht⟩ := kst_all (N := N) (lv := lv) (c := c) (i := i + 1) hi
  rw [ht]; exact List.mem_append_left _ (h hl)
theorem refL_len : (refL N lv c).length = N.length := by simp [refL]
theorem refL_getE {i : Nat} (hi : i < (refL N lv c).length) : (refL N lv c)[i] = refI N lv c i := by simp [refL]
theorem refL_get {i : Nat} (hi : i < N.length) : (refL N lv c).getD i 0 = refI N lv c i := by simp [refL, List.getD, hi]
theorem refI_at {i : Nat} (hi : i < N.length) (hl : lv.getD i false = true) : refI N lv c i = (((kst N lv c (i + 1)).idxOf (keyL N lv c i) : Nat) : Int) := by
  obtain ⟨_, _, h⟩ := kst_pre (N := N) (lv := lv) (c := c) i
  obtain ⟨t, ht⟩ := kst_all (N := N) (lv := lv) (c := c) (i := i + 1) hi
  rw [refI, if_pos hl, ht, List.idxOf_append, if_pos (h hl)]
theorem refI_dead {i : Nat} (hl : lv.getD i false = false) : refI N lv c i = -1 := by rw [refI, if_neg (by rw [hl]; simp)]
theorem refI_bd (i : Nat) (hi : i < N.length) : -1 ≤ refI N lv c i ∧ refI N lv c i < (N.length : Int) := by
  rw [refI]
  split
  · rename_i hl
    have h1 := List.idxOf_lt_length_of_mem (kAll_mem (c := c) hi hl)
    have h2 := kst_len (N := N) (lv := lv) (c := c) N.length
    unfold kAll at h1 ⊢
    omega
  · omega
theorem refI_same {i j : Nat} (hi : i < N.length) (hj : j < N.length) (hl : lv.getD i false = true) (hm : lv.getD j false = true) : refI N lv c i = refI N lv c j ↔ keyL N lv c i = keyL N lv c j := by
  rw [refI, if_pos hl, refI, if_pos hm]
  constructor
  · intro h
    have e : (kAll N lv c).idxOf (keyL N lv c i) = (kAll N lv c).idxOf (keyL N lv c j) := by omega
    have h1 := List.idxOf_lt_length_of_mem (kAll_mem (c := c) hi hl)
    have g1 := List.getElem_idxOf h1
    have h2 := List.idxOf_lt_length_of_mem (kAll_mem (c := c) hj hm)
    have g2 := List.getElem_idxOf h2
    rw [← g1, ← g2]
    congr 1
  · intro h; rw [h]
theorem kst_heads {i : Nat} (hi : i ≤ N.length) {x : List Int} (hx : x ∈ kst N lv (refL N lv c) i) : 0 ≤ x.headD 0 ∧ x.headD 0 < ((kst N lv c i).length : Int) := by
  obtain ⟨j, hj, hl, rfl⟩ := kst_in hx
  have e : (keyL N lv (refL N lv c) j).headD 0 = refI N lv c j := by
    rw [keyL, List.headD_cons, refL_get (by omega)]
  rw [e, refI_at (by omega) hl]
  obtain ⟨_, _, h⟩ := kst_pre (N := N) (lv := lv) (c := c) j
  have h1 := List.idxOf_lt_length_of_mem (h hl)
  obtain ⟨t, ht⟩ := kst_pre2 (N := N) (lv := lv) (c := c) (j + 1) (i - (j + 1))
  rw [show j + 1 + (i - (j + 1)) = i by omega] at ht
  have h2 : (kst N lv c i).length = (kst N lv c (j + 1)).length + t.length := by rw [ht, List.length_append]
  omega
theorem kst_new {i : Nat} (hi : i < N.length) (hl : lv.getD i false = true) (hn : (kst N lv c i).contains (keyL N lv c i) = false) : (kst N lv (refL N lv c) i).contains (keyL N lv (refL N lv c) i) = false ∧ (keyL N lv (refL N lv c) i).headD 0 = ((kst N lv c i).length : Int) := by
  have e : (keyL N lv (refL N lv c) i).headD 0 = refI N lv c i := by
    rw [keyL, List.headD_cons, refL_get hi]
  have e1 : kst N lv c (i + 1) = addK (kst N lv c i) (keyL N lv c i) := by rw [kst, if_pos hl]
  have e2 : refI N lv c i = ((kst N lv c i).length : Int) := by
    rw [refI_at hi hl, e1, addK, if_neg (by rw [hn]; simp), List.idxOf_append, if_neg (by simpa using hn)]
    simp
  refine ⟨?_, by rw [e, e2]⟩
  rw [Bool.eq_false_iff]
  intro hc
  have := (kst_heads (i := i) (Nat.le_of_lt hi) (by simpa using hc)).2
  rw [e, e2] at this
  omega
theorem kst_step {i : Nat} (hi : i < N.length) : (kst N lv (refL N lv c) i).length + (kst N lv c (i + 1)).length ≤ (kst N lv (refL N lv c) (i + 1)).length + (kst N lv c i).length := by
  cases hl : lv.getD i false
  · simp only [kst, hl, Bool.false_eq_true, if_false]; omega
  · have e1 : kst N lv c (i + 1) = addK (kst N lv c i) (keyL N lv c i) := by rw [kst, if_pos hl]
    have e2 : kst N lv (refL N lv c) (i + 1) = addK (kst N lv (refL N lv c) i) (keyL N lv (refL N lv c) i) := by rw [kst, if_pos hl]
    cases hn : (kst N lv c i).contains (keyL N lv c i)
    · have h3 := (kst_new hi hl hn).1
      rw [e1, e2]
      simp only [addK, hn, h3, Bool.false_eq_true, if_false, List.length_append, List.length_cons, List.length_nil]
      omega
    · rw [e1, e2]
      simp only [addK, hn, if_true]
      split
      · omega
      · simp only [List.length_append, List.length_cons, List.length_nil]; omega
theorem kst_le : ∀ i, i ≤ N.length → (kst N lv c i).length ≤ (kst N lv (refL N lv c) i).length
  | 0, _ => Nat.le_refl _
  | i + 1, hi => by
    have h1 := kst_le i (by omega)
    have h2 := kst_step (lv := lv) (c := c) (N := N) (i := i) (by omega)
    omega
theorem kst_gap {i : Nat} (hi : i ≤ N.length) : ∀ j, i + j ≤ N.length → (kst N lv (refL N lv c) i).length + (kst N lv c (i + j)).length ≤ (kst N lv (refL N lv c) (i + j)).length + (kst N lv c i).length
  | 0, _ => by rw [Nat.add_zero]; omega
  | j + 1, h => by
    have h1 := kst_gap hi j (by omega)
    have h2 := kst_step (lv := lv) (c := c) (N := N) (i := i + j) (by omega)
    rw [← Nat.add_assoc]
    omega
theorem kst_stable (h : (kAll N lv (refL N lv c)).length = (kAll N lv c).length) : refL N lv (refL N lv c) = refL N lv c := by
  have hle : ∀ i, i ≤ N.length → (kst N lv c i).length = (kst N lv (refL N lv c) i).length := fun i hi => by
    have h1 := kst_le (lv := lv) (c := c) (N := N) i hi
    have h2 := kst_gap (lv := lv) (c := c) (N := N) (i := i) hi (N.length - i) (by omega)
    rw [show i + (N.length - i) = N.length by omega] at h2
    unfold kAll at h
    omega
  have hh : ∀ i, i ≤ N.length → (kst N lv (refL N lv c) i).map (fun x => x.headD 0) = (List.range (kst N lv c i).length).map fun (j : Nat) => (j : Int) := fun i => by
    induction i with
    | zero => intro _; rfl
    | succ i ih =>
      intro hi
      have ih := ih (by omega)
      cases hl : lv.getD i false
      · simp only [kst, hl, Bool.false_eq_true, if_false]; exact ih
      · have e1 : kst N lv c (i + 1) = addK (kst N lv c i) (keyL N lv c i) := by rw [kst, if_pos hl]
        have e2 : kst N lv (refL N lv c) (i + 1) = addK (kst N lv (refL N lv c) i) (keyL N lv (refL N lv c) i) := by rw [kst, if_pos hl]
        have l0 := hle i (by omega)
        have l1 := hle (i + 1) hi
        rw [e1, e2] at l1
        rw [e1, e2]
        cases hn : (kst N lv c i).contains (keyL N lv c i)
        · obtain ⟨h3, h4⟩ := kst_new (by omega) hl hn
          simp only [addK, hn, h3, Bool.false_eq_true, if_false, List.map_append, List.length_append, List.length_cons, List.length_nil, ih, List.map_cons, List.map_nil, h4, List.range_succ]
        · cases h3 : (kst N lv (refL N lv c) i).contains (keyL N lv (refL N lv c) i)
          · simp only [addK, hn, h3, Bool.false_eq_true, if_false, if_true, List.length_append, List.length_cons, List.length_nil] at l1
            omega
          · simp only [addK, hn, h3, if_true]; exact ih
  have hA := hh N.length (Nat.le_refl _)
  apply List.ext_getElem
  · rw [refL_len, refL_len]
  · intro i h1 h2
    have hi : i < N.length := by rw [refL_len] at h1; exact h1
    rw [refL_getE, refL_getE]
    cases hl : lv.getD i false
    · rw [refI_dead hl, refI_dead hl]
    · have hm := kAll_mem (c := refL N lv c) hi hl
      have h3 := List.idxOf_lt_length_of_mem hm
      have g3 := List.getElem_idxOf h3
      have e : (keyL N lv (refL N lv c) i).headD 0 = refI N lv c i := by
        rw [keyL, List.headD_cons, refL_get hi]
      have q : ((kAll N lv (refL N lv c)).map (fun x => x.headD 0))[(kAll N lv (refL N lv c)).idxOf (keyL N lv (refL N lv c) i)]'(by simpa using h3) = refI N lv c i := by
        rw [List.getElem_map, g3, e]
      have q2 : ((kAll N lv (refL N lv c)).map (fun x => x.headD 0))[(kAll N lv (refL N lv c)).idxOf (keyL N lv (refL N lv c) i)]'(by simpa using h3) = (((kAll N lv (refL N lv c)).idxOf (keyL N lv (refL N lv c) i) : Nat) : Int) := by
        have hA' : (kAll N lv (refL N lv c)).map (fun x => x.headD 0) = (List.range (kst N lv c N.length).length).map fun (j : Nat) => (j : Int) := hA
        simp only [hA', List.getElem_map, List.getElem_range]
      have : refI N lv (refL N lv c) i = (((kAll N lv (refL N lv c)).idxOf (keyL N lv (refL N lv c) i) : Nat) : Int) := by rw [refI, if_pos hl]
      rw [this, ← q2, q]
end
section
variable {F : List Bool} {N : List (List Int)}
theorem cntR_le (r : Nat) : cntR F N r ≤ cntR F N (r + 1) := kst_le N.length (Nat.le_refl _)
theorem cntR_top (r : Nat) : cntR F N r ≤ N.length := kst_len _
theorem clsR_stop {r : Nat} (h : cntR F N (r + 1) = cntR F N r) : ∀ j, clsR F N (r + 1 + j) = clsR F N (r + 1)
  | 0 => rfl
  | j + 1 => by
    rw [← Nat.add_assoc, clsR, clsR_stop h j]
    exact kst_stable h
theorem cntR_rise (r : Nat) : (∃ q, q < r ∧ cntR F N (q + 1) = cntR F N q) ∨ r ≤ cntR F N r := by
  induction r with
  | zero => exact .inr (Nat.zero_le _)
  | succ r ih =>
    rcases ih with ⟨q, h1, h2⟩ | h
    · exact .inl ⟨q, by omega, h2⟩
    · by_cases he : cntR F N (r + 1) = cntR F N r
      · exact .inl ⟨r, by omega, he⟩
      · right
        have := cntR_le (F := F) (N := N) r
        omega
theorem clsF_of (hl : N.length = F.length) {r : Nat} (h : cntR F N (r + 1) = cntR F N r) : clsR F N (r + 1) = clsF F N := by
  have key : ∃ q, q ≤ F.length ∧ cntR F N (q + 1) = cntR F N q := by
    rcases cntR_rise (F := F) (N := N) (F.length + 1) with ⟨q, h1, h2⟩ | g
    · exact ⟨q, by omega, h2⟩
    · have := cntR_top (F := F) (N := N) (F.length + 1); omega
  obtain ⟨q, h1, h2⟩ := key
  have e1 := clsR_stop h2 (F.length + 1 - q)
  rw [show q + 1 + (F.length + 1 - q) = F.length + 2 by omega] at e1
  unfold clsF
  rw [e1]
  rcases Nat.le_total r q with g | g
  · have := clsR_stop h (q - r)
    rw [show r + 1 + (q - r) = q + 1 by omega] at this
    exact this.symm
  · have := clsR_stop h2 (r - q)
    rw [show q + 1 + (r - q) = r + 1 by omega] at this
    exact this
theorem clsF_fix (hl : N.length = F.length) : refL N (liveL F N) (clsF F N) = clsF F N := by
  have key : ∃ q, q ≤ F.length ∧ cntR F N (q + 1) = cntR F N q := by
    rcases cntR_rise (F := F) (N := N) (F.length + 1) with ⟨q, h1, h2⟩ | g
    · exact ⟨q, by omega, h2⟩
    · have := cntR_top (F := F) (N := N) (F.length + 1); omega
  obtain ⟨q, h1, h2⟩ := key
  rw [← clsF_of hl h2]
  exact kst_stable h2
theorem clsR_len (hl : N.length = F.length) : ∀ r, (clsR F N r).length = F.length
  | 0 => by simp [clsR, cls0]
  | r + 1 => by rw [clsR, refL_len, hl]
theorem clsR_bd (hl : N.length = F.length) (hk : 1 ≤ F.length) : ∀ r, ∀ x ∈ clsR F N r, -1 ≤ x ∧ x < (F.length : Int) + 1
  | 0, x, hx => by
    simp only [clsR, cls0, List.mem_map, List.mem_range] at hx
    obtain ⟨i, hi, rfl⟩ := hx
    split
    · split <;> omega
    · omega
  | r + 1, x, hx => by
    simp only [clsR, refL, List.mem_map, List.mem_range] at hx
    obtain ⟨i, hi, rfl⟩ := hx
    have := refI_bd (lv := liveL F N) (c := clsR F N r) i hi
    omega
end
theorem getE {l : List Int} {a : Nat} (h : a < l.length) : l[a] = l.getD a 0 := by simp [List.getD, List.getElem?_eq_getElem h]
theorem toD_neg {N : List (List Int)} {s a : Int} (h : s < 0) : toD N s a = -1 := by unfold toD; rw [if_pos (.inl h)]
theorem ends_cons {F : List Bool} {N : List (List Int)} (s a : Int) (w : List Int) : endsD F N s (a :: w) = endsD F N (toD N s a) w := by
  unfold endsD
  rw [runD]
  by_cases h : s < 0
  · rw [if_pos h, toD_neg h, runD_neg (by decide)]
    simp [show ¬ 0 ≤ s by omega]
  · rw [if_neg h]
theorem ends_neg {F : List Bool} {N : List (List Int)} {s : Int} (h : s < 0) (w : List Int) : endsD F N s w = false := by
  unfold endsD
  rw [runD_neg h]
  simp [show ¬ 0 ≤ s by omega]
section
variable {L k : Nat} {N : List (List Int)} {F : List Bool}
theorem NOk.bnd (h : NOk L k N) (s : Nat) : ∀ t ∈ N.getD s [], t < (N.length : Int) := fun t ht => by
  rcases Nat.lt_or_ge s k with q | q
  · have := (h.get q).2 t ht
    have := h.len
    omega
  · simp [List.getD, List.getElem?_eq_none (show N.length ≤ s by have := h.len; omega)] at ht
theorem live_word (h : NOk L k N) (hF : F.length = k) {s : Nat} (hs : s < k) : (liveL F N).getD s false = true ↔ ∃ w, endsD F N s w = true := by
  have hl := h.len
  rw [live_iff (by omega) h.bnd (by omega)]
  constructor
  · exact run_of_lv (by omega)
  · rintro ⟨w, hw⟩
    have := lv_of_run (by omega) hw
    simpa using this
theorem dead_word (h : NOk L k N) (hF : F.length = k) {s : Nat} (hs : s < k) (hd : (liveL F N).getD s false = false) (w : List Int) : endsD F N s w = false := by
  cases he : endsD F N s w
  · rfl
  · have := (live_word h hF hs).2 ⟨w, he⟩
    rw [hd] at this; cases this
theorem toD_at (h : NOk L k N) {s : Nat} (hs : s < k) {a : Int} (ha : 0 ≤ a ∧ a < (L : Int)) : toD N s a = (N.getD s []).getD a.toNat 0 := by
  unfold toD
  rw [if_neg, Int.toNat_natCast]
  have h1 := h.len
  have h2 := (h.get hs).1
  rw [Int.toNat_natCast, h2]
  omega
theorem toD_far (h : NOk L k N) {s : Nat} (hs : s < k) {a : Int} (ha : ¬ (0 ≤ a ∧ a < (L : Int))) : toD N s a = -1 := by
  unfold toD
  rw [if_pos]
  have h2 := (h.get hs).1
  rw [Int.toNat_natCast, h2]
  omega
theorem kTo_neg {lv : List Bool} {c : List Int} {t : Int} (h : t < 0) : kTo lv c t = -1 := by
  unfold kTo
  rw [if_neg]
  simp only [Bool.and_eq_true, decide_eq_true_eq]
  omega
theorem kTo_to {lv : List Bool} {c : List Int} (h : NOk L k N) {i j : Nat} (hi : i < k) (hj : j < k) (hk : keyL N lv c i = keyL N lv c j) (a : Int) : kTo lv c (toD N i a) = kTo lv c (toD N j a) := by
  by_cases ha : 0 ≤ a ∧ a < (L : Int)
  · rw [toD_at h hi ha, toD_at h hj ha]
    unfold keyL at hk
    have e := (List.cons.inj hk).2
    have e2 := congrArg (fun l : List Int => l[a.toNat]?) e
    simp only [List.getElem?_map] at e2
    have l1 := (h.get hi).1
    have l2 := (h.get hj).1
    generalize N.getD i [] = u at *
    generalize N.getD j [] = v at *
    rw [List.getElem?_eq_getElem (by omega), List.getElem?_eq_getElem (by omega)] at e2
    simp only [Option.map_some, Option.some.injEq] at e2
    simp only [List.getD]
    rw [List.getElem?_eq_getElem (by omega), List.getElem?_eq_getElem (by omega)]
    exact e2
  · rw [toD_far h hi ha, toD_far h hj ha]
theorem clsF_get (h : NOk L k N) (hF : F.length = k) {i : Nat} (hi : i < k) : (clsF F N).getD i 0 = refI N (liveL F N) (clsF F N) i := by
  have hl := h.len
  have e := clsF_fix (F := F) (N := N) (by omega)
  have e2 := refL_get (N := N) (lv := liveL F N) (c := clsF F N) (i := i) (by omega)
  rw [e] at e2; exact e2
theorem clsF_live (h : NOk L k N) (hF : F.length = k) {i : Nat} (hi : i < k) : (liveL F N).getD i false = true ↔ 0 ≤ (clsF F N).getD i 0 := by
  rw [clsF_get h hF hi]
  cases hq : (liveL F N).getD i false
  · rw [refI_dead hq]; simp
  · rw [refI, if_pos hq]; simp
theorem clsF_key (h : NOk L k N) (hF : F.length = k) {i j : Nat} (hi : i < k) (hj : j < k) (li : (liveL F N).getD i false = true) (lj : (liveL F N).getD j false = true) : (clsF F N).getD i 0 = (clsF F N).getD j 0 ↔ keyL N (liveL F N) (clsF F N) i = keyL N (liveL F N) (clsF F N) j := by
  have hl := h.len
  rw [clsF_get h hF hi, clsF_get h hF hj, refI_same (by omega) (by omega) li lj]
theorem clsR_get0 {i : Nat} (hi : i < F.length) : (clsR F N 0).getD i 0 = if (liveL F N).getD i false = true then (if F.getD i false = true then 1 else 0) else -1 := by
  simp [clsR, cls0, List.getD, hi]
theorem clsR_fin (h : NOk L k N) (hF : F.length = k) {i j : Nat} (hi : i < k) (hj : j < k) (li : (liveL F N).getD i false = true) (lj : (liveL F N).getD j false = true) : ∀ r, (clsR F N r).getD i 0 = (clsR F N r).getD j 0 → F.getD i false = F.getD j false
  | 0, e => by
    rw [clsR_get0 (by omega), clsR_get0 (by omega), if_pos li, if_pos lj] at e
    cases h1 : F.getD i false <;> cases h2 : F.getD j false <;> simp only [h1, h2, if_true, Bool.false_eq_true, if_false] at e ⊢ <;> omega
  | r + 1, e => by
    have hl := h.len
    rw [clsR, refL_get (by omega), refL_get (by omega), refI_same (by omega) (by omega) li lj] at e
    exact clsR_fin h hF hi hj li lj r (List.cons.inj e).1
theorem lang_of_cls (h : NOk L k N) (hF : F.length = k) : ∀ (w : List Int) (i j : Nat), i < k → j < k → (liveL F N).getD i false = true → (liveL F N).getD j false = true → (clsF F N).getD i 0 = (clsF F N).getD j 0 → endsD F N i w = endsD F N j w
  | [], i, j, hi, hj, li, lj, e => by
    have := clsR_fin h hF hi hj li lj (F.length + 2) e
    simp only [endsD, runD, Int.toNat_natCast, this]
    simp
  | a :: w, i, j, hi, hj, li, lj, e => by
    rw [ends_cons, ends_cons]
    have hk := kTo_to h hi hj ((clsF_key h hF hi hj li lj).1 e) a
    have b1 := toD_ok h (i : Int) a
    have b2 := toD_ok h (j : Int) a
    generalize toD N i a = s at *
    generalize toD N j a = t at *
    have key : ∀ s : Int, (-1 ≤ s ∧ s < (k : Int) ∨ s = -1) → (kTo (liveL F N) (clsF F N) s = -1 ∧ endsD F N s w = false) ∨ ∃ n : Nat, s = (n : Int) ∧ n < k ∧ (liveL F N).getD n false = true ∧ kTo (liveL F N) (clsF F N) s = (clsF F N).getD n 0 := fun s hs => by
      by_cases h0 : s < 0
      · exact .inl ⟨kTo_neg h0, ends_neg h0 w⟩
      · obtain ⟨n, rfl⟩ := Int.eq_ofNat_of_zero_le (Int.not_lt.1 h0)
        have hn : n < k := by omega
        cases hq : (liveL F N).getD n false
        · refine .inl ⟨?_, dead_word h hF hn hq w⟩
          unfold kTo
          rw [Int.toNat_natCast, hq, Bool.and_false, if_neg (by simp)]
        · refine .inr ⟨n, rfl, hn, hq, ?_⟩
          unfold kTo
          rw [Int.toNat_natCast, hq, if_pos (by simp)]
    rcases key s b1 with ⟨k1, e1⟩ | ⟨n, rfl, n1, n2, k1⟩
    · rcases key t b2 with ⟨k2, e2⟩ | ⟨m, rfl, m1, m2, k2⟩
      · rw [e1, e2]
      · have := (clsF_live h hF m1).1 m2
        omega
    · rcases key t b2 with ⟨k2, e2⟩ | ⟨m, rfl, m1, m2, k2⟩
      · have := (clsF_live h hF n1).1 n2
        omega
      · exact lang_of_cls h hF w n m n1 m1 n2 m2 (by omega)
theorem cls_of_lang (h : NOk L k N) (hF : F.length = k) : ∀ (r : Nat) (i j : Nat), i < k → j < k → (liveL F N).getD i false = true → (liveL F N).getD j false = true → (∀ w, endsD F N i w = endsD F N j w) → (clsR F N r).getD i 0 = (clsR F N r).getD j 0
  | 0, i, j, hi, hj, li, lj, e => by
    rw [clsR_get0 (by omega), clsR_get0 (by omega), if_pos li, if_pos lj]
    have f : ∀ s : Nat, endsD F N s [] = F.getD s false := fun s => by
      simp only [endsD, runD, Int.toNat_natCast]; simp
    have := e []
    rw [f, f] at this
    rw [this]
  | r + 1, i, j, hi, hj, li, lj, e => by
    have hl := h.len
    rw [clsR, refL_get (by omega), refL_get (by omega), refI_same (by omega) (by omega) li lj]
    unfold keyL
    rw [cls_of_lang h hF r i j hi hj li lj e]
    congr 1
    have l1 := (h.get hi).1
    have l2 := (h.get hj).1
    apply List.ext_getElem
    · simp only [List.length_map]; omega
    · intro a h1 h2
      have ha : a < L := by rw [List.length_map] at h1; omega
      have t1 := toD_at h hi (a := (a : Int)) ⟨by omega, by omega⟩
      have t2 := toD_at h hj (a := (a : Int)) ⟨by omega, by omega⟩
      rw [Int.toNat_natCast] at t1 t2
      have b1 := toD_ok h (i : Int) (a : Int)
      have b2 := toD_ok h (j : Int) (a : Int)
      have hw : ∀ w, endsD F N (toD N i a) w = endsD F N (toD N j a) w := fun w => by rw [← ends_cons, ← ends_cons]; exact e _
      have x1 : (N.getD i [])[a]'(by omega) = toD N i a := by rw [t1]; exact getE _
      have x2 : (N.getD j [])[a]'(by omega) = toD N j a := by rw [t2]; exact getE _
      rw [List.getElem_map, List.getElem_map, x1, x2]
      generalize toD N i a = s at *
      generalize toD N j a = t at *
      have key : ∀ s : Int, (-1 ≤ s ∧ s < (k : Int) ∨ s = -1) → (kTo (liveL F N) (clsR F N r) s = -1 ∧ ∀ w, endsD F N s w = false) ∨ ∃ n : Nat, s = (n : Int) ∧ n < k ∧ (liveL F N).getD n false = true ∧ kTo (liveL F N) (clsR F N r) s = (clsR F N r).getD n 0 := fun s hs => by
        by_cases h0 : s < 0
        · exact .inl ⟨kTo_neg h0, ends_neg h0⟩
        · obtain ⟨n, rfl⟩ := Int.eq_ofNat_of_zero_le (Int.not_lt.1 h0)
          have hn : n < k := by omega
          cases hq : (liveL F N).getD n false
          · refine .inl ⟨?_, dead_word h hF hn hq⟩
            unfold kTo
            rw [Int.toNat_natCast, hq, Bool.and_false, if_neg (by simp)]
          · refine .inr ⟨n, rfl, hn, hq, ?_⟩
            unfold kTo
            rw [Int.toNat_natCast, hq, if_pos (by simp)]
      rcases key s b1 with ⟨k1, e1⟩ | ⟨n, rfl, n1, n2, k1⟩
      · rcases key t b2 with ⟨k2, e2⟩ | ⟨m, rfl, m1, m2, k2⟩
        · rw [k1, k2]
        · obtain ⟨w, hx⟩ := (live_word h hF m1).1 m2
          rw [← hw, e1] at hx; cases hx
      · rcases key t b2 with ⟨k2, e2⟩ | ⟨m, rfl, m1, m2, k2⟩
        · obtain ⟨w, hx⟩ := (live_word h hF n1).1 n2
          rw [hw, e2] at hx; cases hx
        · rw [k1, k2]
          exact cls_of_lang h hF r n m n1 m1 n2 m2 hw
end
def cl (c : List Int) (t : Int) : Int := c.getD t.toNat 0
def dead (c : List Int) (t : Int) : Bool := decide (t < 0) || decide (cl c t < 0)
def oAdd (c l : List Int) (t : Int) : List Int := if dead c t = true then l else if (l.map (cl c)).contains (cl c t) = true then l else l ++ [t]
def oRow (N : List (List Int)) (c l : List Int) (s : Nat) : Nat → List Int
  | 0 => l
  | a + 1 => oAdd c (oRow N c l s a) ((N.getD s []).getD a 0)
def oStp (N : List (List Int)) (c l : List Int) (i : Nat) : List Int := oRow N c l (l.getD i 0).toNat (N.getD (l.getD i 0).toNat []).length
def oQ (N : List (List Int)) (c : List Int) (st : Nat) : Nat → List Int
  | 0 => [(st : Int)]
  | i + 1 => if i < (oQ N c st i).length then oStp N c (oQ N c st i) i else oQ N c st i
def oAll (N : List (List Int)) (c : List Int) (st : Nat) : List Int := oQ N c st N.length
def oNum (c q : List Int) (t : Int) : Int := if dead c t = true then -1 else (((q.map (cl c)).idxOf (cl c t) : Nat) : Int)
def oFin (F : List Bool) (q : List Int) : List Bool := q.map fun s => F.getD s.toNat false
def oNx (N : List (List Int)) (c q : List Int) : List (List Int) := q.map fun s => (N.getD s.toNat []).map (oNum c q)
def intK (x : Int) : Value := .int .i64 x
theorem keyEq_int (x y : Int) : keyEq (intK x) (intK y) = (y == x) := by
  rw [show keyEq (intK x) (intK y) = (x == y) from rfl, Bool.eq_iff_iff, beq_iff_eq, beq_iff_eq]
  exact eq_comm
structure OI (k : Nat) (c q : List Int) : Prop where
  mem : ∀ s ∈ q, 0 ≤ s ∧ s < (k : Int) ∧ 0 ≤ cl c s
  nd : (q.map (cl c)).Nodup
section
variable {L k : Nat} {N : List (List Int)} {c : List Int}
theorem oAdd_pre (q : List Int) (t : Int) : ∃ u, oAdd c q t = q ++ u := by
  unfold oAdd
  split
  · exact ⟨[], by simp⟩
  · split
    · exact ⟨[], by simp⟩
    · exact ⟨[t], rfl⟩
theorem oAdd_has {q : List Int} {t : Int} (h : dead c t = false) : cl c t ∈ (oAdd c q t).map (cl c) := by
  unfold oAdd
  rw [h, if_neg (by simp)]
  split
  · rename_i g; simpa using g
  · simp
theorem oAdd_oi {q : List Int} {t : Int} (h : OI k c q) (ht : t < (k : Int)) : OI k c (oAdd c q t) := by
  unfold oAdd
  split
  · exact h
  · rename_i hd
    simp only [dead, Bool.or_eq_true, decide_eq_true_eq, not_or] at hd
    split
    · exact h
    · rename_i hn
      refine ⟨fun s hs => ?_, ?_⟩
      · rcases List.mem_append.1 hs with g | g
        · exact h.mem s g
        · rw [List.mem_singleton] at g; subst g; omega
      · rw [List.map_append, List.nodup_append]
        refine ⟨h.nd, by simp, fun x hx y hy => ?_⟩
        simp only [List.map_cons, List.map_nil, List.mem_singleton] at hy
        subst hy
        rintro rfl
        exact hn (by simpa using hx)
theorem oRow_pre (q : List Int) (s : Nat) : ∀ a, ∃ u, oRow N c q s a = q ++ u
  | 0 => ⟨[], by simp [oRow]⟩
  | a + 1 => by
    obtain ⟨u, hu⟩ := oRow_pre q s a
    obtain ⟨v, hv⟩ := oAdd_pre (c := c) (oRow N c q s a) ((N.getD s []).getD a 0)
    exact ⟨u ++ v, by rw [oRow, hv, hu, List.append_assoc]⟩
theorem oRow_pre2 (q : List Int) (s a : Nat) : ∀ b, ∃ u, oRow N c q s (a + b) = oRow N c q s a ++ u
  | 0 => ⟨[], by simp⟩
  | b + 1 => by
    obtain ⟨u, hu⟩ := oRow_pre2 q s a b
    obtain ⟨v, hv⟩ := oAdd_pre (c := c) (oRow N c q s (a + b)) ((N.getD s []).getD (a + b) 0)
    exact ⟨u ++ v, by rw [← Nat.add_assoc, oRow, hv, hu, List.append_assoc]⟩
theorem NOk.at (h : NOk L k N) {s a : Nat} (hs : s < k) (ha : a < L) : -1 ≤ (N.getD s []).getD a 0 ∧ (N.getD s []).getD a 0 < (k : Int) := by
  have hr := h.get hs
  have hc' : a < (N.getD s []).length := by omega
  have e : (N.getD s []).getD a 0 = (N.getD s [])[a] := by
    generalize N.getD s [] = w at hc' ⊢
    simp [List.getD, List.getElem?_eq_getElem hc']
  rw [e]; exact hr.2 _ (List.getElem_mem _)
theorem oRow_oi (h : NOk L k N) {q : List Int} (hq : OI k c q) {s : Nat} (hs : s < k) : ∀ a, a ≤ L → OI k c (oRow N c q s a)
  | 0, _ => hq
  | a + 1, ha => oAdd_oi (oRow_oi h hq hs a (by omega)) (h.at hs (by omega)).2
theorem OI.get {q : List Int} (hq : OI k c q) {i : Nat} (hi : i < q.length) : ∃ n : Nat, q.getD i 0 = (n : Int) ∧ n < k ∧ 0 ≤ c.getD n 0 := by
  have e : q.getD i 0 = q[i] := by simp [List.getD, List.getElem?_eq_getElem hi]
  obtain ⟨h1, h2, h3⟩ := hq.mem _ (List.getElem_mem hi)
  obtain ⟨n, hn⟩ := Int.eq_ofNat_of_zero_le h1
  rw [hn] at h2 h3
  refine ⟨n, by rw [e, hn], by omega, ?_⟩
  have e2 : cl c ((Int.ofNat n)) = c.getD n 0 := rfl
  rw [← e2]; exact h3
theorem oQ_oi (h : NOk L k N) {st : Nat} (hst : st < k) (h0 : 0 ≤ c.getD st 0) : ∀ i, OI k c (oQ N c st i)
  | 0 => ⟨fun s hs => by
      simp only [oQ, List.mem_singleton] at hs
      subst hs
      refine ⟨by omega, by omega, by simpa [cl] using h0⟩, by simp [oQ]⟩
  | i + 1 => by
    have ih := oQ_oi h hst h0 i
    rw [oQ]
    split
    · rename_i hi
      obtain ⟨n, hn, hk, _⟩ := ih.get hi
      unfold oStp
      rw [hn, Int.toNat_natCast]
      exact oRow_oi h ih hk _ (Nat.le_of_eq (h.get hk).1)
    · exact ih
theorem oQ_pre (st i : Nat) : ∃ u, oQ N c st (i + 1) = oQ N c st i ++ u := by
  rw [oQ]
  split
  · exact oRow_pre _ _ _
  · exact ⟨[], by simp⟩
theorem oQ_pre2 (st i : Nat) : ∀ j, ∃ u, oQ N c st (i + j) = oQ N c st i ++ u
  | 0 => ⟨[], by simp⟩
  | j + 1 => by
    obtain ⟨u, hu⟩ := oQ_pre2 st i j
    obtain ⟨v, hv⟩ := oQ_pre (N := N) (c := c) st (i + j)
    exact ⟨u ++ v, by rw [← Nat.add_assoc, hv, hu, List.append_assoc]⟩
theorem oQ_stop (st : Nat) {i : Nat} (hi : ¬ i < (oQ N c st i).length) : ∀ j, oQ N c st (i + j) = oQ N c st i
  | 0 => rfl
  | j + 1 => by
    have ih := oQ_stop st hi j
    rw [← Nat.add_assoc, oQ, ih, if_neg (by omega)]
theorem OI.len {q : List Int} (hq : OI k c q) (hc : ∀ x ∈ c, x < (k : Int)) (hcl : c.length = k) : q.length ≤ k := by
  have h1 : ((q.map (cl c)).map Int.toNat).Nodup := by
    unfold List.Nodup
    rw [List.pairwise_map]
    refine List.Pairwise.imp_of_mem (fun {x y} hx hy hne e => hne ?_) hq.nd
    obtain ⟨s, hs, rfl⟩ := List.mem_map.1 hx
    obtain ⟨t, ht, rfl⟩ := List.mem_map.1 hy
    have h1 := (hq.mem s hs).2.2
    have h2 := (hq.mem t ht).2.2
    omega
  have h2 := nodup_len k _ h1 fun x hx => by
    obtain ⟨y, hy, rfl⟩ := List.mem_map.1 hx
    obtain ⟨s, hs, rfl⟩ := List.mem_map.1 hy
    obtain ⟨g1, g2, g3⟩ := hq.mem s hs
    have hlt : s.toNat < c.length := by omega
    have : cl c s < (k : Int) := by
      have e : cl c s = c[s.toNat] := by simp [cl, List.getD, List.getElem?_eq_getElem hlt]
      rw [e]; exact hc _ (List.getElem_mem _)
    omega
  simpa using h2
theorem oNum_pre {q u : List Int} {t : Int} (h : dead c t = false → cl c t ∈ q.map (cl c)) : oNum c (q ++ u) t = oNum c q t := by
  unfold oNum
  cases hd : dead c t
  · simp only [Bool.false_eq_true, if_false]
    rw [List.map_append, List.idxOf_append, if_pos (h hd)]
  · rfl
theorem oAll_of {st i : Nat} (hi : i ≤ N.length) (hs : ¬ i < (oQ N c st i).length) : oQ N c st i = oAll N c st := by
  have := oQ_stop (N := N) (c := c) st hs (N.length - i)
  rw [show i + (N.length - i) = N.length by omega] at this
  exact this.symm
theorem oAll_pre {st i : Nat} (hi : i ≤ N.length) : ∃ u, oAll N c st = oQ N c st i ++ u := by
  obtain ⟨u, hu⟩ := oQ_pre2 (N := N) (c := c) st i (N.length - i)
  rw [show i + (N.length - i) = N.length by omega] at hu
  exact ⟨u, hu⟩
theorem oRow_all {st i a : Nat} (hi : i < (oQ N c st i).length) (hik : i < N.length) (ha : a ≤ (N.getD ((oQ N c st i).getD i 0).toNat []).length) : ∃ u, oAll N c st = oRow N c (oQ N c st i) ((oQ N c st i).getD i 0).toNat a ++ u := by
  obtain ⟨u, hu⟩ := oAll_pre (N := N) (c := c) (st := st) (i := i + 1) hik
  rw [oQ, if_pos hi, oStp] at hu
  obtain ⟨v, hv⟩ := oRow_pre2 (N := N) (c := c) (oQ N c st i) ((oQ N c st i).getD i 0).toNat a ((N.getD ((oQ N c st i).getD i 0).toNat []).length - a)
  rw [show a + ((N.getD ((oQ N c st i).getD i 0).toNat []).length - a) = (N.getD ((oQ N c st i).getD i 0).toNat []).length by omega] at hv
  exact ⟨v ++ u, by rw [hu, hv, List.append_assoc]⟩
end
theorem map_range_getD {α β : Type} (f : α → β) (d : α) (l : List α) : (List.range l.length).map (fun a => f (l.getD a d)) = l.map f := by
  apply List.ext_getElem
  · simp
  · intro i h1 h2
    have : i < l.length := by simpa using h2
    simp [List.getD, this]
theorem dead_iff {c : List Int} {t : Int} : dead c t = false ↔ 0 ≤ t ∧ 0 ≤ cl c t := by
  simp only [dead, Bool.or_eq_false_iff, decide_eq_false_iff_not]
  omega
theorem dead_neg {c : List Int} {t : Int} (h : t < 0) : dead c t = true := by
  unfold dead
  rw [decide_eq_true h, Bool.true_or]
theorem oNum_bd {c q : List Int} {t : Int} (h : dead c t = false → cl c t ∈ q.map (cl c)) : -1 ≤ oNum c q t ∧ oNum c q t < (q.length : Int) := by
  unfold oNum
  cases hd : dead c t
  · have h1 := List.idxOf_lt_length_of_mem (h hd)
    rw [List.length_map] at h1
    simp only [Bool.false_eq_true, if_false]
    omega
  · simp only [if_true]; omega
theorem getD_mapI {α : Type} (f : Int → α) (d : α) {q : List Int} {i : Nat} (h : i < q.length) : (q.map f).getD i d = f (q.getD i 0) := by
  simp [List.getD, List.getElem?_eq_getElem h]
structure OA (L k : Nat) (N : List (List Int)) (F : List Bool) (st : Nat) (Q : List Int) : Prop where
  ok : NOk L k N
  hF : F.length = k
  hst : st < k
  h0 : 0 ≤ (clsF F N).getD st 0
  hQ : Q = oAll N (clsF F N) st
section
variable {L k st : Nat} {N : List (List Int)} {F : List Bool} {Q : List Int}
theorem OA.oi (h : OA L k N F st Q) (i : Nat) : OI k (clsF F N) (oQ N (clsF F N) st i) := oQ_oi h.ok h.hst h.h0 i
theorem OA.oiQ (h : OA L k N F st Q) : OI k (clsF F N) Q := by rw [h.hQ]; exact h.oi _
theorem OA.bd (h : OA L k N F st Q) {q : List Int} (hq : OI k (clsF F N) q) : q.length ≤ k := by
  have hl := h.ok.len
  have hF := h.hF
  refine hq.len (fun x hx => ?_) ?_
  · rw [← clsF_fix (F := F) (N := N) (by omega)] at hx
    simp only [refL, List.mem_map, List.mem_range] at hx
    obtain ⟨i, hi, rfl⟩ := hx
    have := refI_bd (lv := liveL F N) (c := clsF F N) i hi
    omega
  · rw [show (clsF F N).length = F.length from clsR_len (by omega) _, hF]
theorem OA.lenQ (h : OA L k N F st Q) : Q.length ≤ k := h.bd h.oiQ
theorem OA.pre (h : OA L k N F st Q) (i : Nat) (hi : i ≤ k) : ∃ u, Q = oQ N (clsF F N) st i ++ u := by
  rw [h.hQ]; exact oAll_pre (by rw [h.ok.len]; exact hi)
theorem OA.lt (h : OA L k N F st Q) {i : Nat} (hi : i < Q.length) : i < (oQ N (clsF F N) st i).length := by
  by_cases g : i < (oQ N (clsF F N) st i).length
  · exact g
  · have hk := h.lenQ
    have := oAll_of (N := N) (c := clsF F N) (st := st) (i := i) (by rw [h.ok.len]; omega) g
    rw [← h.hQ] at this
    rw [this] at g; omega
theorem OA.at_ (h : OA L k N F st Q) {i : Nat} (hi : i < Q.length) : (oQ N (clsF F N) st i).getD i 0 = Q.getD i 0 := by
  have hk := h.lenQ
  obtain ⟨u, hu⟩ := h.pre i (by omega)
  rw [hu, getD_app_lt (h.lt hi)]
theorem OA.st_ (h : OA L k N F st Q) {i : Nat} (hi : i < Q.length) : ∃ s : Nat, Q.getD i 0 = (s : Int) ∧ s < k ∧ (liveL F N).getD s false = true := by
  obtain ⟨s, h1, h2, h3⟩ := h.oiQ.get hi
  exact ⟨s, h1, h2, (clsF_live h.ok h.hF h2).2 h3⟩
theorem OA.row (h : OA L k N F st Q) {i a : Nat} (hi : i < Q.length) (ha : a ≤ L) : ∃ u, Q = oRow N (clsF F N) (oQ N (clsF F N) st i) (Q.getD i 0).toNat a ++ u := by
  have hk := h.lenQ
  have := oRow_all (N := N) (c := clsF F N) (st := st) (i := i) (a := a) (h.lt hi) (by rw [h.ok.len]; omega)
  obtain ⟨s, h1, h2, h3⟩ := h.st_ hi
  rw [h.at_ hi, h1, Int.toNat_natCast, (h.ok.get h2).1, ← h.hQ] at this
  rw [h1, Int.toNat_natCast]
  exact this ha
theorem OA.has (h : OA L k N F st Q) {i s a : Nat} (hi : i < Q.length) (hs : Q.getD i 0 = (s : Int)) (ha : a < L) (hd : dead (clsF F N) ((N.getD s []).getD a 0) = false) : cl (clsF F N) ((N.getD s []).getD a 0) ∈ Q.map (cl (clsF F N)) := by
  obtain ⟨u, hu⟩ := h.row hi (a := a + 1) (by omega)
  rw [hs, Int.toNat_natCast, oRow] at hu
  rw [hu, List.map_append]
  exact List.mem_append_left _ (oAdd_has hd)
theorem OA.q0 (h : OA L k N F st Q) : 0 < Q.length ∧ Q.getD 0 0 = (st : Int) := by
  obtain ⟨u, hu⟩ := h.pre 0 (Nat.zero_le _)
  rw [hu]
  simp [oQ]
theorem OA.cell (h : OA L k N F st Q) {i s a : Nat} (hi : i < Q.length) (hs : Q.getD i 0 = (s : Int)) (hsk : s < k) (ha : a < L) : ((oNx N (clsF F N) Q).getD i []).getD a 0 = oNum (clsF F N) Q ((N.getD s []).getD a 0) := by
  have hr := (h.ok.get hsk).1
  unfold oNx
  rw [getD_mapI _ _ hi, hs, Int.toNat_natCast, getD_mapI _ _ (by omega)]
theorem OA.ok2 (h : OA L k N F st Q) : NOk L Q.length (oNx N (clsF F N) Q) := by
  refine ⟨by simp [oNx], fun r hr => ?_⟩
  unfold oNx at hr
  obtain ⟨s', hs', rfl⟩ := List.mem_map.1 hr
  obtain ⟨i, hi, rfl⟩ := List.getElem_of_mem hs'
  obtain ⟨s, h1, h2, h3⟩ := h.st_ hi
  have e : Q[i] = (s : Int) := by rw [← h1]; exact getE hi
  rw [e, Int.toNat_natCast]
  have hrl := (h.ok.get h2).1
  refine ⟨by rw [List.length_map, hrl], fun t ht => ?_⟩
  obtain ⟨u, hu, rfl⟩ := List.mem_map.1 ht
  obtain ⟨a, ha, rfl⟩ := List.getElem_of_mem hu
  refine oNum_bd fun hd => ?_
  rw [getE ha] at hd ⊢
  exact h.has hi h1 (by omega) hd
theorem OA.hF2 (h : OA L k N F st Q) : (oFin F Q).length = Q.length := by simp [oFin]
theorem OA.lang (h : OA L k N F st Q) : ∀ (w : List Int) (i s : Nat), i < Q.length → Q.getD i 0 = (s : Int) → endsD (oFin F Q) (oNx N (clsF F N) Q) i w = endsD F N s w
  | [], i, s, hi, hs => by
    have f : ∀ (F : List Bool) (N : List (List Int)) (s : Nat), endsD F N s [] = F.getD s false := fun F N s => by
      simp only [endsD, runD, Int.toNat_natCast]; simp
    rw [f, f, oFin, getD_mapI _ _ hi, hs, Int.toNat_natCast]
  | a :: w, i, s, hi, hs => by
    obtain ⟨s', h1, h2, h3⟩ := h.st_ hi
    rw [hs] at h1
    obtain rfl : s = s' := by omega
    rw [ends_cons, ends_cons]
    by_cases ha : 0 ≤ a ∧ a < (L : Int)
    · obtain ⟨b, rfl⟩ := Int.eq_ofNat_of_zero_le ha.1
      have hb : b < L := by omega
      rw [toD_at h.ok2 hi ha, toD_at h.ok h2 ha, Int.toNat_natCast, h.cell hi hs h2 hb]
      have hhas := h.has hi hs hb
      have htb := h.ok.at h2 hb
      generalize (N.getD s []).getD b 0 = t at *
      cases hd : dead (clsF F N) t
      · have hm := hhas hd
        obtain ⟨t0, hc⟩ := dead_iff.1 hd
        obtain ⟨n, rfl⟩ := Int.eq_ofNat_of_zero_le t0
        have hn : n < k := by omega
        have hln := (clsF_live h.ok h.hF hn).2 (by simpa [cl] using hc)
        have hj := List.idxOf_lt_length_of_mem hm
        have hg := List.getElem_idxOf hj
        unfold oNum
        rw [hd, if_neg (by simp)]
        generalize (Q.map (cl (clsF F N))).idxOf (cl (clsF F N) ((n : Nat) : Int)) = j at *
        have hj2 : j < Q.length := by simpa using hj
        rw [List.getElem_map] at hg
        obtain ⟨m, m1, m2, m3⟩ := h.st_ hj2
        rw [h.lang w j m hj2 m1]
        rw [getE hj2, m1] at hg
        exact lang_of_cls h.ok h.hF w m n m2 hn m3 hln (by simpa [cl] using hg)
      · unfold oNum
        rw [hd, if_pos rfl, ends_neg (by decide)]
        by_cases ht : t < 0
        · rw [ends_neg ht]
        · obtain ⟨n, rfl⟩ := Int.eq_ofNat_of_zero_le (Int.not_lt.1 ht)
          have hn : n < k := by omega
          cases hq : (liveL F N).getD n false
          · rw [dead_word h.ok h.hF hn hq]
          · have := (clsF_live h.ok h.hF hn).1 hq
            have hd2 : dead (clsF F N) ((n : Nat) : Int) = false := dead_iff.2 ⟨by omega, by simpa [cl] using this⟩
            rw [hd] at hd2; cases hd2
    · rw [toD_far h.ok2 hi ha, toD_far h.ok h2 ha, ends_neg (by decide), ends_neg (by decide)]
theorem OA.apart (h : OA L k N F st Q) {i j : Nat} (hi : i < Q.length) (hj : j < Q.length) (hw : ∀ w, endsD (oFin F Q) (oNx N (clsF F N) Q) i w = endsD (oFin F Q) (oNx N (clsF F N) Q) j w) : i = j := by
  obtain ⟨s, s1, s2, s3⟩ := h.st_ hi
  obtain ⟨t, t1, t2, t3⟩ := h.st_ hj
  have e : (clsF F N).getD s 0 = (clsF F N).getD t 0 := cls_of_lang h.ok h.hF (F.length + 2) s t s2 t2 s3 t3 fun w => by rw [← h.lang w i s hi s1, ← h.lang w j t hj t1]; exact hw w
  have g1 := getD_mapI (cl (clsF F N)) 0 hi
  have g2 := getD_mapI (cl (clsF F N)) 0 hj
  rw [s1] at g1; rw [t1] at g2
  have e2 : (Q.map (cl (clsF F N))).getD i 0 = (Q.map (cl (clsF F N))).getD j 0 := by
    rw [g1, g2]
    simpa [cl] using e
  have hi2 : i < (Q.map (cl (clsF F N))).length := by simpa using hi
  have hj2 : j < (Q.map (cl (clsF F N))).length := by simpa using hj
  rw [← getE hi2, ← getE hj2] at e2
  exact (List.getElem_inj h.oiQ.nd).1 e2
theorem OA.alive (h : OA L k N F st Q) {i : Nat} (hi : i < Q.length) : (liveL (oFin F Q) (oNx N (clsF F N) Q)).getD i false = true := by
  obtain ⟨s, s1, s2, s3⟩ := h.st_ hi
  obtain ⟨w, hw⟩ := (live_word h.ok h.hF s2).1 s3
  exact (live_word h.ok2 h.hF2 hi).2 ⟨w, by rw [h.lang w i s hi s1]; exact hw⟩
def metO (N : List (List Int)) (c : List Int) (st : Nat) (Q : List Int) (i a : Nat) : Nat := (oRow N c (oQ N c st i) (Q.getD i 0).toNat a).length
theorem OA.met (h : OA L k N F st Q) {i a : Nat} (hi : i < Q.length) (ha : a < L) : ∃ x : Int, ((oNx N (clsF F N) Q).getD i []).getD a 0 = x ∧ -1 ≤ x ∧
    ((x < (metO N (clsF F N) st Q i a : Int) ∧ metO N (clsF F N) st Q i (a + 1) = metO N (clsF F N) st Q i a) ∨ (x = (metO N (clsF F N) st Q i a : Int) ∧ metO N (clsF F N) st Q i (a + 1) = metO N (clsF F N) st Q i a + 1)) := by
  obtain ⟨s, s1, s2, s3⟩ := h.st_ hi
  refine ⟨_, h.cell hi s1 s2 ha, (oNum_bd (h.has hi s1 ha)).1, ?_⟩
  obtain ⟨u, hu⟩ := h.row hi (a := a + 1) (by omega)
  unfold metO
  rw [s1, Int.toNat_natCast] at hu ⊢
  rw [oRow] at hu ⊢
  have hnum := oNum_pre (c := clsF F N) (q := oAdd (clsF F N) (oRow N (clsF F N) (oQ N (clsF F N) st i) s a) ((N.getD s []).getD a 0)) (u := u) (t := (N.getD s []).getD a 0) oAdd_has
  rw [← hu] at hnum
  rw [hnum]
  generalize oRow N (clsF F N) (oQ N (clsF F N) st i) s a = q
  generalize (N.getD s []).getD a 0 = t
  cases hd : dead (clsF F N) t
  · cases hc : (q.map (cl (clsF F N))).contains (cl (clsF F N) t)
    · right
      unfold oNum oAdd
      simp only [hd, hc, Bool.false_eq_true, if_false, List.length_append, List.length_cons, List.length_nil]
      rw [List.map_append, List.idxOf_append, if_neg (by simpa using hc)]
      simp
    · left
      have hm : cl (clsF F N) t ∈ q.map (cl (clsF F N)) := by simpa using hc
      have := List.idxOf_lt_length_of_mem hm
      rw [List.length_map] at this
      unfold oNum oAdd
      simp only [hd, hc, Bool.false_eq_true, if_false, if_true]
      exact ⟨by omega, trivial⟩
  · left
    unfold oNum oAdd
    simp only [hd, if_true]
    exact ⟨by omega, trivial⟩
theorem metO_0 (Q : List Int) (i : Nat) : metO N (clsF F N) st Q i 0 = (oQ N (clsF F N) st i).length := rfl
theorem OA.metN (h : OA L k N F st Q) {i : Nat} (hi : i < Q.length) : metO N (clsF F N) st Q i L = (oQ N (clsF F N) st (i + 1)).length := by
  obtain ⟨s, s1, s2, s3⟩ := h.st_ hi
  rw [oQ, if_pos (h.lt hi), oStp, h.at_ hi]
  unfold metO
  rw [s1, Int.toNat_natCast, (h.ok.get s2).1]
theorem kst_own {N : List (List Int)} {F : List Bool} (h : NOk L k N) (hF : F.length = k) (hlv : ∀ i, i < k → (liveL F N).getD i false = true) (hap : ∀ i j, i < k → j < k → (∀ w, endsD F N i w = endsD F N j w) → i = j) : ∀ i, i ≤ k → (kst N (liveL F N) (clsF F N) i).length = i ∧ (i < k → (clsF F N).getD i 0 = (i : Int))
  | i, hik => by
    have hl := h.len
    have hnew : ∀ i, i < k → (kst N (liveL F N) (clsF F N) i).contains (keyL N (liveL F N) (clsF F N) i) = false := fun i hi => by
      rw [Bool.eq_false_iff]
      intro hc
      obtain ⟨j, hj, lj, e⟩ := kst_in (show keyL N (liveL F N) (clsF F N) i ∈ kst N (liveL F N) (clsF F N) i by simpa using hc)
      have e2 := (clsF_key h hF hi (by omega) (hlv i hi) lj).2 e
      have := hap i j hi (by omega) fun w => lang_of_cls h hF w i j hi (by omega) (hlv i hi) lj e2
      omega
    have hlen : ∀ i, i ≤ k → (kst N (liveL F N) (clsF F N) i).length = i := fun i => by
      induction i with
      | zero => intro _; rfl
      | succ i ih =>
        intro hi
        rw [kst, if_pos (hlv i (by omega)), addK, hnew i (by omega), if_neg (by simp), List.length_append, ih (by omega)]
        rfl
    refine ⟨hlen i hik, fun hi => ?_⟩
    rw [clsF_get h hF hi, refI_at (by omega) (hlv i hi), kst, if_pos (hlv i hi), addK, hnew i hi, if_neg (by simp), List.idxOf_append, if_neg (by simpa using hnew i hi), hlen i hik]
    simp
def rgI (n : Nat) : List Int := (List.range n).map fun (i : Nat) => (i : Int)
theorem rgI_len (n : Nat) : (rgI n).length = n := by simp [rgI]
theorem rgI_get {n i : Nat} (h : i < n) : (rgI n).getD i 0 = (i : Int) := by simp [rgI, List.getD, h]
theorem rgI_succ (n : Nat) : rgI (n + 1) = rgI n ++ [(n : Int)] := by simp [rgI, List.range_succ]
theorem OA.cls2 (h : OA L k N F st Q) {i : Nat} (hi : i < Q.length) : (clsF (oFin F Q) (oNx N (clsF F N) Q)).getD i 0 = (i : Int) :=
  (kst_own h.ok2 h.hF2 (fun i hi => h.alive hi) (fun i j hi hj hw => h.apart hi hj hw) i (by omega)).2 hi
theorem OA.cl2 (h : OA L k N F st Q) {i : Nat} (hi : i < Q.length) : cl (clsF (oFin F Q) (oNx N (clsF F N) Q)) (i : Int) = (i : Int) := by
  have := h.cls2 hi
  simpa [cl] using this
theorem OA.clR (h : OA L k N F st Q) {n : Nat} (hn : n ≤ Q.length) : (rgI n).map (cl (clsF (oFin F Q) (oNx N (clsF F N) Q))) = rgI n := by
  apply List.ext_getElem
  · simp
  · intro i h1 h2
    have hi : i < n := by rw [rgI_len] at h2; exact h2
    rw [List.getElem_map]
    simp only [rgI, List.getElem_map, List.getElem_range]
    exact h.cl2 (by omega)
theorem rgI_has {n m : Nat} : (rgI n).contains (m : Int) = decide (m < n) := by
  rw [Bool.eq_iff_iff]
  simp only [rgI, List.contains_eq_mem, List.mem_map, List.mem_range, decide_eq_true_eq]
  constructor
  · rintro ⟨a, ha, e⟩; omega
  · intro hm; exact ⟨m, hm, rfl⟩
theorem OA.row2 (h : OA L k N F st Q) {i : Nat} (hi : i < Q.length) : ∀ a, a ≤ L → oRow (oNx N (clsF F N) Q) (clsF (oFin F Q) (oNx N (clsF F N) Q)) (rgI (oQ N (clsF F N) st i).length) i a = rgI (metO N (clsF F N) st Q i a)
  | 0, _ => by rw [oRow, metO_0]
  | a + 1, ha => by
    rw [oRow, OA.row2 h hi a (by omega)]
    obtain ⟨x, hx, hx1, hc⟩ := h.met hi (a := a) (by omega)
    obtain ⟨u, hu⟩ := h.row hi (a := a + 1) ha
    have hml : metO N (clsF F N) st Q i (a + 1) ≤ Q.length := by
      have := congrArg List.length hu
      rw [List.length_append] at this
      unfold metO; omega
    rw [hx]
    generalize metO N (clsF F N) st Q i a = m at *
    generalize metO N (clsF F N) st Q i (a + 1) = m' at *
    unfold oAdd
    by_cases h0 : x < 0
    · rw [if_pos (dead_neg h0)]
      rcases hc with ⟨_, q⟩ | ⟨q, _⟩
      · rw [q]
      · omega
    · obtain ⟨y, rfl⟩ := Int.eq_ofNat_of_zero_le (Int.not_lt.1 h0)
      have hy : y < Q.length := by rcases hc with ⟨q1, q2⟩ | ⟨q1, q2⟩ <;> omega
      have hcl := h.cl2 hy
      have hd : dead (clsF (oFin F Q) (oNx N (clsF F N) Q)) ((y : Nat) : Int) = false := dead_iff.2 ⟨by omega, by rw [hcl]; omega⟩
      rw [hd, if_neg (by simp), hcl, h.clR (by rcases hc with ⟨q1, q2⟩ | ⟨q1, q2⟩ <;> omega), rgI_has]
      rcases hc with ⟨q1, q2⟩ | ⟨q1, q2⟩
      · rw [decide_eq_true (by omega), if_pos rfl, q2]
      · rw [decide_eq_false (by omega), if_neg (by simp), q2, rgI_succ, q1]
theorem OA.q2 (h : OA L k N F st Q) : ∀ i, i ≤ Q.length → oQ (oNx N (clsF F N) Q) (clsF (oFin F Q) (oNx N (clsF F N) Q)) 0 i = rgI (oQ N (clsF F N) st i).length
  | 0, _ => rfl
  | i + 1, hi => by
    have ih := OA.q2 h i (by omega)
    have hlt := h.lt (i := i) (by omega)
    rw [oQ, ih, rgI_len, if_pos hlt, oStp, rgI_get hlt, Int.toNat_natCast, (h.ok2.get (by omega)).1, h.row2 (by omega) L (Nat.le_refl _), h.metN (by omega)]
end
end Go.Proofs.Ytcpipfodedfpkaa
