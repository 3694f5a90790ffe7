/-
  The contract of lang.Differ, lang.Equal.
-/
import Derived.Test.YtcfnbofapjgepaaSh
namespace Go.Proofs.Ytcfnbofapjgepaa
open Go.Ab
set_option linter.unusedSimpArgs false
set_option linter.unusedVariables false

def ch2 (N M : List (List Int)) (s : S2) (c : Nat) : Option S2 := if toD N s.1 c < 0 ∧ toD M s.2 c < 0 then none else some (toD N s.1 c, toD M s.2 c)
def finS (F : List Bool) (s : Int) : Bool := decide (0 ≤ s) && F.getD s.toNat false
def fin2 (F G : List Bool) (s : S2) : Bool := finS F s.1 != finS G s.2
def keyS (s : S2) : Value := .agg #[.int .i64 s.1, .int .i64 s.2]
def qMap (q : List (QE S2)) : List (Value × Value) := q.map fun e => (keyS e.1, .bool true)
theorem keyEq_S (s t : S2) : keyEq (keyS s) (keyS t) = (t == s) := by
  rw [Bool.eq_iff_iff]
  simp only [keyS, keyEq_pair, Bool.and_eq_true, beq_iff_eq]
  constructor
  · rintro ⟨h1, h2⟩; exact (Prod.ext h1 h2).symm
  · rintro rfl; exact ⟨rfl, rfl⟩
theorem mget_q (s : S2) : ∀ q : List (QE S2), mget (keyS s) (qMap q) = if (q.any fun e => e.1 == s) = true then some (.bool true) else none
  | [] => rfl
  | e :: q => by
    have ih := mget_q s q
    simp only [qMap, List.map_cons, mget] at ih ⊢
    rw [keyEq_S, ih]
    by_cases h : (e.1 == s) = true
    · have h2 : ((e :: q).any fun e => e.1 == s) = true := by rw [List.any_cons, h, Bool.true_or]
      rw [if_pos h, if_pos h2]
    · have h2 : ((e :: q).any fun e => e.1 == s) = q.any fun e => e.1 == s := by rw [List.any_cons, Bool.not_eq_true _ |>.mp h, Bool.false_or]
      rw [if_neg h, h2]
theorem mset_q (s : S2) (u x : Int) : ∀ q : List (QE S2), (q.any fun e => e.1 == s) = false → mset (keyS s) (.bool true) (qMap q) = qMap (q ++ [(s, u, x)])
  | [], _ => rfl
  | e :: q, h => by
    rw [List.any_cons, Bool.or_eq_false_iff] at h
    have ih := mset_q s u x q h.2
    simp only [qMap, List.map_cons, mset, List.cons_append] at ih ⊢
    rw [keyEq_S, h.1]
    simp only [Bool.false_eq_true, if_false]
    rw [ih]

theorem ch2_len {L k m : Nat} {N M : List (List Int)} (h : NOk L k N) (g : NOk L m M) {a b : Nat} (ha : a < k) (hb : b < m) {q : List (QE S2)} {i c : Nat} (hi : BInv (ch2 N M) ((a : Int), (b : Int)) L q i c) : q.length ≤ (k + 1) * (m + 1) := by
  have rng : ∀ s : S2, (s = ((a : Int), (b : Int)) ∨ ∃ r x, ch2 N M r x = some s) → -1 ≤ s.1 ∧ s.1 < (k : Int) ∧ -1 ≤ s.2 ∧ s.2 < (m : Int) := fun s hs => by
    rcases hs with rfl | ⟨r, x, hr⟩
    · simp only; omega
    · unfold ch2 at hr
      split at hr
      · cases hr
      · cases hr
        have h1 := toD_ok h r.1 x
        have h2 := toD_ok g r.2 x
        simp only; omega
  have bd : ∀ s : S2, -1 ≤ s.1 ∧ s.1 < (k : Int) ∧ -1 ≤ s.2 ∧ s.2 < (m : Int) → (s.1 + 1).toNat * (m + 1) + (s.2 + 1).toNat < (k + 1) * (m + 1) := fun s hs => by
    have h1 : (s.1 + 1).toNat + 1 ≤ k + 1 := by omega
    have h2 : ((s.1 + 1).toNat + 1) * (m + 1) ≤ (k + 1) * (m + 1) := Nat.mul_le_mul h1 (Nat.le_refl _)
    rw [Nat.add_mul, Nat.one_mul] at h2
    omega
  refine hi.len (fun s => (s.1 + 1).toNat * (m + 1) + (s.2 + 1).toNat) _ (bd _ (rng _ (.inl rfl))) (fun s x t ht => bd _ (rng _ (.inr ⟨s, x, ht⟩))) (fun s t hs ht e => ?_)
  have r1 := rng s hs
  have r2 := rng t ht
  obtain ⟨s1, s2⟩ := s
  obtain ⟨t1, t2⟩ := t
  simp only at r1 r2 e
  have d1 : ((s1 + 1).toNat * (m + 1) + (s2 + 1).toNat) / (m + 1) = (s1 + 1).toNat := by rw [Nat.mul_comm, Nat.mul_add_div (by omega), Nat.div_eq_of_lt (by omega), Nat.add_zero]
  have d2 : ((t1 + 1).toNat * (m + 1) + (t2 + 1).toNat) / (m + 1) = (t1 + 1).toNat := by rw [Nat.mul_comm, Nat.mul_add_div (by omega), Nat.div_eq_of_lt (by omega), Nat.add_zero]
  have e1 : (s1 + 1).toNat = (t1 + 1).toNat := by rw [← d1, ← d2, e]
  rw [e1] at e
  have x1 : s1 = t1 := by omega
  have x2 : s2 = t2 := by omega
  rw [x1, x2]

set_option maxRecDepth 20000 in
set_option maxHeartbeats 32000000 in
theorem c_Differ {L k m : Nat} {N M : List (List Int)} (h : NOk L k N) (g : NOk L m M) (a b : Nat) (ha : a < k) (hb : b < m) (F G : List Bool) (hF : F.length = k) (hG : G.length = m) (hL : L ≤ 100000) (hk : 1 ≤ k ∧ k ≤ 2000) (hm : 1 ≤ m ∧ m ≤ 2000) (hkm : (k + 1) * (m + 1) < 16000) :
    Contract Try.prog 8 [dfaD L a F N, dfaD L b G M] (.tup [.sl (srch (ch2 N M) ((a : Int), (b : Int)) L (fin2 F G) 20000 0).isNone (ints (shW (srch (ch2 N M) ((a : Int), (b : Int)) L (fin2 F G) 20000 0))), bo (srch (ch2 N M) ((a : Int), (b : Int)) L (fin2 F G) 20000 0).isSome, i64 0]) [] := by
  refine contract_of_awpV ttok (rs := [.tmp 4, .tmp 5, .tmp 6]) Try.func8 rfl Try.ntmps8 (by simp) rfl fun E => ?_
  generalize hRR : srch (ch2 N M) ((a : Int), (b : Int)) L (fin2 F G) 20000 0 = R
  have hl := h.len
  have hl2 := g.len
  have hmay1 := c_May h a ha F hF hL hk
  have hmay2 := c_May g b hb G hG hL hm
  have hLL : ((L : Int) != (L : Int)) = false := by simp
  have hmT : mapT tt 57 = some (MKind.pair 3, Value.bool false) := by kernel_rfl
  (repeat (first | refine awp_seq ?_ | refine awp_block ?_ | ((first | refine awp_skip ?_ | refine awp_exit ?_ | refine awp_reg ttok ?_ | (refine awp_draw ttok ?dr_calm ?_; (case dr_calm => decide +kernel)) | refine awp_condM ?_); simp (maxSteps := 4000000) only [↓reduceIte, Nat.reduceLT, Nat.reduceEqDiff, reduceCtorEq, Nat.reduceAdd, Nat.reduceMul, Int.reduceLE, Int.reduceLT, Int.reduceToNat, Nat.reduceLeDiff, Nat.reduceSub, Int.reduceEq, Nat.reduceBEq, List.replicate, List.set, if_false, if_true, ne_eq, false_implies, implies_true, evA, tyA, dfaD]; (repeat (with_reducible refine And.intro ?_ ?_; focus ((repeat' with_reducible apply And.intro) <;> (first | omega | with_reducible trivial | with_reducible assumption)))); (with_reducible first | refine awp_id ?_ | refine id_call ?_ | refine id_and ?_ | refine id_ex ?_ | refine id_all ?_ | refine id_nat ?_ | refine id_le ?_))))
  refine callVC_scal fnok25 hmay1 rfl ?_
  simp (maxSteps := 4000000) only [↓reduceIte, Nat.reduceLT, Nat.reduceEqDiff, reduceCtorEq, Nat.reduceAdd, Nat.reduceMul, Int.reduceLE, Int.reduceLT, Int.reduceToNat, Nat.reduceLeDiff, Nat.reduceSub, Int.reduceEq, Nat.reduceBEq, List.replicate, List.set, if_false, if_true, ne_eq, false_implies, implies_true, evA, tyA]
  (repeat (with_reducible refine And.intro ?_ ?_; focus ((repeat' with_reducible apply And.intro) <;> (first | omega | with_reducible trivial | with_reducible assumption))))
  (repeat (first | refine awp_seq ?_ | refine awp_block ?_ | ((first | refine awp_skip ?_ | refine awp_exit ?_ | refine awp_reg ttok ?_ | (refine awp_draw ttok ?dr_calm ?_; (case dr_calm => decide +kernel)) | refine awp_condM ?_); simp (maxSteps := 4000000) only [↓reduceIte, Nat.reduceLT, Nat.reduceEqDiff, reduceCtorEq, Nat.reduceAdd, Nat.reduceMul, Int.reduceLE, Int.reduceLT, Int.reduceToNat, Nat.reduceLeDiff, Nat.reduceSub, Int.reduceEq, Nat.reduceBEq, List.replicate, List.set, if_false, if_true, ne_eq, false_implies, implies_true, evA, tyA]; (repeat (with_reducible refine And.intro ?_ ?_; focus ((repeat' with_reducible apply And.intro) <;> (first | omega | with_reducible trivial | with_reducible assumption)))); (with_reducible first | refine awp_id ?_ | refine id_call ?_ | refine id_and ?_ | refine id_ex ?_ | refine id_all ?_ | refine id_nat ?_ | refine id_le ?_))))
  refine callVC_scal fnok25 hmay2 rfl ?_
  simp (maxSteps := 4000000) only [↓reduceIte, Nat.reduceLT, Nat.reduceEqDiff, reduceCtorEq, Nat.reduceAdd, Nat.reduceMul, Int.reduceLE, Int.reduceLT, Int.reduceToNat, Nat.reduceLeDiff, Nat.reduceSub, Int.reduceEq, Nat.reduceBEq, List.replicate, List.set, if_false, if_true, ne_eq, false_implies, implies_true, evA, tyA, hLL]
  (repeat (with_reducible refine And.intro ?_ ?_; focus ((repeat' with_reducible apply And.intro) <;> (first | omega | with_reducible trivial | with_reducible assumption))))
  (repeat (first | refine awp_seq ?_ | refine awp_block ?_ | ((first | refine awp_skip ?_ | refine awp_exit ?_ | refine awp_reg ttok ?_ | (refine awp_draw ttok ?dr_calm ?_; (case dr_calm => decide +kernel)) | refine awp_condM ?_); simp (maxSteps := 4000000) only [↓reduceIte, Nat.reduceLT, Nat.reduceEqDiff, reduceCtorEq, Nat.reduceAdd, Nat.reduceMul, Int.reduceLE, Int.reduceLT, Int.reduceToNat, Nat.reduceLeDiff, Nat.reduceSub, Int.reduceEq, Nat.reduceBEq, List.replicate, List.set, if_false, if_true, ne_eq, false_implies, implies_true, evA, tyA, hLL]; (repeat (with_reducible refine And.intro ?_ ?_; focus ((repeat' with_reducible apply And.intro) <;> (first | omega | with_reducible trivial | with_reducible assumption)))); (with_reducible first | refine awp_id ?_ | refine id_call ?_ | refine id_and ?_ | refine id_ex ?_ | refine id_all ?_ | refine id_nat ?_ | refine id_le ?_))))
  (repeat (first | refine awp_seq ?_ | refine awp_block ?_ | ((first | refine awp_skip ?_ | refine awp_exit ?_ | refine awp_reg ttok ?_ | (refine awp_draw ttok ?dr_calm ?_; (case dr_calm => decide +kernel)) | refine awp_condM ?_); simp (maxSteps := 4000000) only [↓reduceIte, Nat.reduceLT, Nat.reduceEqDiff, reduceCtorEq, Nat.reduceAdd, Nat.reduceMul, Int.reduceLE, Int.reduceLT, Int.reduceToNat, Nat.reduceLeDiff, Nat.reduceSub, Int.reduceEq, Nat.reduceBEq, List.replicate, List.set, if_false, if_true, ne_eq, false_implies, implies_true, evA, tyA, hmT]; (repeat (with_reducible refine And.intro ?_ ?_; focus ((repeat' with_reducible apply And.intro) <;> (first | omega | with_reducible trivial | with_reducible assumption)))); (with_reducible first | refine awp_id ?_ | refine id_call ?_ | refine id_and ?_ | refine id_ex ?_ | refine id_all ?_ | refine id_nat ?_ | refine id_le ?_))))
  intro mb
  (repeat (first | refine awp_seq ?_ | refine awp_block ?_ | ((first | refine awp_skip ?_ | refine awp_exit ?_ | refine awp_reg ttok ?_ | (refine awp_draw ttok ?dr_calm ?_; (case dr_calm => decide +kernel)) | refine awp_condM ?_); simp (maxSteps := 4000000) only [↓reduceIte, Nat.reduceLT, Nat.reduceEqDiff, reduceCtorEq, Nat.reduceAdd, Nat.reduceMul, Int.reduceLE, Int.reduceLT, Int.reduceToNat, Nat.reduceLeDiff, Nat.reduceSub, Int.reduceEq, Nat.reduceBEq, List.replicate, List.set, if_false, if_true, ne_eq, false_implies, implies_true, evA, tyA]; (repeat (with_reducible refine And.intro ?_ ?_; focus ((repeat' with_reducible apply And.intro) <;> (first | omega | with_reducible trivial | with_reducible assumption)))); (with_reducible first | refine awp_id ?_ | refine id_call ?_ | refine id_and ?_ | refine id_ex ?_ | refine id_all ?_ | refine id_nat ?_ | refine id_le ?_))))
  have hone : [(keyS ((a : Int), (b : Int)), Value.bool true)] = qMap [(((a : Int), (b : Int)), -1, -1)] := rfl
  have hrow1 : [[i64 (a : Int), i64 (b : Int), D.v (Value.int IntKind.i64 (-1)), D.v (Value.int IntKind.i64 (-1))]] = qRows [(((a : Int), (b : Int)), -1, -1)] := rfl
  refine awp_loop (X := Nat) (fun i => mkSM 112 [(2, .ptr 1000 0 0), (3, .ptr 1001 0 0), (7, .own 4005 0 (bQ (ch2 N M) ((a : Int), (b : Int)) L i).length), (8, .v (.map (some mb))), (9, i64 i)]
      [(1000, { sz := 4, rows := [[i64 L, i64 a, .sl false (bos F), .sl false (iis N)]], flat := false }), (1001, { sz := 4, rows := [[i64 L, i64 b, .sl false (bos G), .sl false (iis M)]], flat := false }), (4005, { sz := 4, rows := qRows (bQ (ch2 N M) ((a : Int), (b : Int)) L i) })] ⟨mb, .pair 3, qMap (bQ (ch2 N M) ((a : Int), (b : Int)) L i)⟩)
    (fun i => (∀ j, j < i → j < (bQ (ch2 N M) ((a : Int), (b : Int)) L j).length) ∧ i ≤ (bQ (ch2 N M) ((a : Int), (b : Int)) L i).length ∧ srch (ch2 N M) ((a : Int), (b : Int)) L (fin2 F G) (20000 - i) i = R) (fun i => 16000 - i) 0 ⟨by simp, by simp, hRR⟩ ?_ ?_
  · refine mkSM_le rfl ?_ ?_ ?_
    · simp (maxSteps := 4000000) only [↓reduceIte, Nat.reduceLT, Nat.reduceEqDiff, reduceCtorEq, Nat.reduceAdd, Nat.reduceMul, Int.reduceLE, Int.reduceLT, Int.reduceToNat, Nat.reduceLeDiff, Nat.reduceSub, Int.reduceEq, Nat.reduceBEq, List.replicate, List.set, if_false, if_true, ne_eq, false_implies, implies_true, evA, bQ]
      try rfl
    · simp (maxSteps := 4000000) only [↓reduceIte, Nat.reduceLT, Nat.reduceEqDiff, reduceCtorEq, Nat.reduceAdd, Nat.reduceMul, Int.reduceLE, Int.reduceLT, Int.reduceToNat, Nat.reduceLeDiff, Nat.reduceSub, Int.reduceEq, Nat.reduceBEq, List.replicate, List.set, if_false, if_true, ne_eq, false_implies, implies_true, evA, bQ]
      try rfl
    · simp (maxSteps := 4000000) only [↓reduceIte, Nat.reduceLT, Nat.reduceEqDiff, reduceCtorEq, Nat.reduceAdd, Nat.reduceMul, Int.reduceLE, Int.reduceLT, Int.reduceToNat, Nat.reduceLeDiff, Nat.reduceSub, Int.reduceEq, Nat.reduceBEq, List.replicate, List.set, if_false, if_true, ne_eq, false_implies, implies_true, evA, bQ]
      try rfl
  · rintro i ⟨h1, h2, h3⟩
    have hbi := bQ_inv (ch := ch2 N M) (z := ((a : Int), (b : Int))) (L := L) i h1
    have hqk := ch2_len h g ha hb hbi
    obtain ⟨n, hn⟩ : ∃ n, 20000 - i = n + 1 := ⟨19999 - i, by omega⟩
    have hnn : n = 20000 - (i + 1) := by omega
    rw [hn, srch] at h3
    have hnx : bQ (ch2 N M) ((a : Int), (b : Int)) L (i + 1) = bRow (ch2 N M) ((a : Int), (b : Int)) i (bQ (ch2 N M) ((a : Int), (b : Int)) L i) L := rfl
    generalize hqe : bQ (ch2 N M) ((a : Int), (b : Int)) L i = q at *
    by_cases hi : i < q.length
    · rw [if_pos hi] at h3
      have d1 : decide ((i : Int) < (q.length : Int)) = true := by simpa using hi
      have hg := qRows_get hi (((a : Int), (b : Int)), -1, -1)
      have hwc := c_word hbi hL (by omega) false i hi
      have hrows := fun c hc => BInv.row hbi hi c hc
      obtain ⟨⟨⟨s1, s2⟩, u, x⟩, hqi⟩ : ∃ e, q.getD i (((a : Int), (b : Int)), -1, -1) = e := ⟨_, rfl⟩
      have hf1 := c_final L a F N s1
      have hf2 := c_final L b G M s2
      rw [hqi] at hg h3
      simp only at hg h3
      have hfin : fin2 F G (s1, s2) = ((decide (0 ≤ s1) && F.getD s1.toNat false) != (decide (0 ≤ s2) && G.getD s2.toNat false)) := rfl
      generalize (decide (0 ≤ s1) && F.getD s1.toNat false) = A at *
      generalize (decide (0 ≤ s2) && G.getD s2.toNat false) = B at *
      (repeat (first | refine awp_seq ?_ | refine awp_block ?_ | ((first | refine awp_skip ?_ | refine awp_exit ?_ | refine awp_reg ttok ?_ | (refine awp_draw ttok ?dr_calm ?_; (case dr_calm => decide +kernel)) | refine awp_condM ?_); simp (maxSteps := 4000000) only [↓reduceIte, Nat.reduceLT, Nat.reduceEqDiff, reduceCtorEq, Nat.reduceAdd, Nat.reduceMul, Int.reduceLE, Int.reduceLT, Int.reduceToNat, Nat.reduceLeDiff, Nat.reduceSub, Int.reduceEq, Nat.reduceBEq, List.replicate, List.set, if_false, if_true, ne_eq, false_implies, implies_true, evA, tyA, qRows_len, d1, hg]; (repeat (with_reducible refine And.intro ?_ ?_; focus ((repeat' with_reducible apply And.intro) <;> (first | omega | with_reducible trivial | with_reducible assumption)))); (with_reducible first | refine awp_id ?_ | refine id_call ?_ | refine id_and ?_ | refine id_ex ?_ | refine id_all ?_ | refine id_nat ?_ | refine id_le ?_))))
      repeat (first | refine awp_seq ?_ | refine awp_block ?_)
      refine awp_drawG ttok ((0, none) :: (1, none) :: (2, none) :: (4, none) :: (5, none) :: (6, none) :: (3, some [4, 5, 6]) :: (7, some []) :: (8, none) :: []) ([]) ([]) (by decide +kernel) fun O hO => ?_; simp only [OpsAre, Nat.reduceAdd, and_true, List.toList_toArray, List.append_eq, List.cons_append, List.nil_append] at hO; simp (maxSteps := 4000000) only [↓reduceIte, Nat.reduceLT, Nat.reduceEqDiff, reduceCtorEq, Nat.reduceAdd, Nat.reduceMul, Int.reduceLE, Int.reduceLT, Int.reduceToNat, Nat.reduceLeDiff, Nat.reduceSub, Int.reduceEq, Nat.reduceBEq, List.replicate, List.set, if_false, if_true, ne_eq, false_implies, implies_true, evA, tyA, hO, qRows_len, hg]; (repeat (with_reducible refine And.intro ?_ ?_; focus ((repeat' with_reducible apply And.intro) <;> (first | omega | with_reducible trivial | with_reducible assumption))))
      refine callVC_scal fnok26 hf1 rfl ?_
      simp (maxSteps := 4000000) only [↓reduceIte, Nat.reduceLT, Nat.reduceEqDiff, reduceCtorEq, Nat.reduceAdd, Nat.reduceMul, Int.reduceLE, Int.reduceLT, Int.reduceToNat, Nat.reduceLeDiff, Nat.reduceSub, Int.reduceEq, Nat.reduceBEq, List.replicate, List.set, if_false, if_true, ne_eq, false_implies, implies_true, evA, tyA, hO]
      (repeat (with_reducible refine And.intro ?_ ?_; focus ((repeat' with_reducible apply And.intro) <;> (first | omega | with_reducible trivial | with_reducible assumption))))
      refine callVC_scal fnok26 hf2 rfl ?_
      simp (maxSteps := 4000000) only [↓reduceIte, Nat.reduceLT, Nat.reduceEqDiff, reduceCtorEq, Nat.reduceAdd, Nat.reduceMul, Int.reduceLE, Int.reduceLT, Int.reduceToNat, Nat.reduceLeDiff, Nat.reduceSub, Int.reduceEq, Nat.reduceBEq, List.replicate, List.set, if_false, if_true, ne_eq, false_implies, implies_true, evA, tyA, hO]
      (repeat (with_reducible refine And.intro ?_ ?_; focus ((repeat' with_reducible apply And.intro) <;> (first | omega | with_reducible trivial | with_reducible assumption))))
      cases hAB : (A != B)
      · rw [hfin, hAB, if_neg (by simp)] at h3
        have hAB2 : (!(A == B)) = false := hAB
        (repeat (first | refine awp_seq ?_ | refine awp_block ?_ | ((first | refine awp_skip ?_ | refine awp_exit ?_ | refine awp_reg ttok ?_ | (refine awp_draw ttok ?dr_calm ?_; (case dr_calm => decide +kernel)) | refine awp_condM ?_); simp (maxSteps := 4000000) only [↓reduceIte, Nat.reduceLT, Nat.reduceEqDiff, reduceCtorEq, Nat.reduceAdd, Nat.reduceMul, Int.reduceLE, Int.reduceLT, Int.reduceToNat, Nat.reduceLeDiff, Nat.reduceSub, Int.reduceEq, Nat.reduceBEq, List.replicate, List.set, if_false, if_true, ne_eq, false_implies, implies_true, evA, tyA, hAB, hAB2]; (repeat (with_reducible refine And.intro ?_ ?_; focus ((repeat' with_reducible apply And.intro) <;> (first | omega | with_reducible trivial | with_reducible assumption)))); (with_reducible first | refine awp_id ?_ | refine id_call ?_ | refine id_and ?_ | refine id_ex ?_ | refine id_all ?_ | refine id_nat ?_ | refine id_le ?_))))
        refine awp_loop (X := Nat) (fun c => mkSM 112 [(2, .ptr 1000 0 0), (3, .ptr 1001 0 0), (7, .own 4005 0 (bRow (ch2 N M) ((a : Int), (b : Int)) i q c).length), (8, .v (.map (some mb))), (9, i64 i), (10, .ptr 9004 0 0), (64, i64 L), (65, i64 c)]
      [(1000, { sz := 4, rows := [[i64 L, i64 a, .sl false (bos F), .sl false (iis N)]], flat := false }), (1001, { sz := 4, rows := [[i64 L, i64 b, .sl false (bos G), .sl false (iis M)]], flat := false }), (4005, { sz := 4, rows := qRows (bRow (ch2 N M) ((a : Int), (b : Int)) i q c) }), (9004, { sz := 4, rows := [[i64 s1, i64 s2, i64 u, i64 x]], flat := false })] ⟨mb, .pair 3, qMap (bRow (ch2 N M) ((a : Int), (b : Int)) i q c)⟩)
          (fun c => c ≤ L) (fun c => L - c) 0 (Nat.zero_le _) ?_ ?_
        · refine mkSM_le rfl ?_ ?_ ?_
          · simp (maxSteps := 4000000) only [↓reduceIte, Nat.reduceLT, Nat.reduceEqDiff, reduceCtorEq, Nat.reduceAdd, Nat.reduceMul, Int.reduceLE, Int.reduceLT, Int.reduceToNat, Nat.reduceLeDiff, Nat.reduceSub, Int.reduceEq, Nat.reduceBEq, List.replicate, List.set, if_false, if_true, ne_eq, false_implies, implies_true, evA, bRow]
            try rfl
          · simp (maxSteps := 4000000) only [↓reduceIte, Nat.reduceLT, Nat.reduceEqDiff, reduceCtorEq, Nat.reduceAdd, Nat.reduceMul, Int.reduceLE, Int.reduceLT, Int.reduceToNat, Nat.reduceLeDiff, Nat.reduceSub, Int.reduceEq, Nat.reduceBEq, List.replicate, List.set, if_false, if_true, ne_eq, false_implies, implies_true, evA, bRow]
            try rfl
          · simp (maxSteps := 4000000) only [↓reduceIte, Nat.reduceLT, Nat.reduceEqDiff, reduceCtorEq, Nat.reduceAdd, Nat.reduceMul, Int.reduceLE, Int.reduceLT, Int.reduceToNat, Nat.reduceLeDiff, Nat.reduceSub, Int.reduceEq, Nat.reduceBEq, List.replicate, List.set, if_false, if_true, ne_eq, false_implies, implies_true, evA, bRow]
            try rfl
        · intro c hc
          by_cases hcl : c < L
          · have d2 : decide ((c : Int) < (L : Int)) = true := by simpa using hcl
            have hwi : IntKind.i64.wrap ((c : Int) + 1) = ((c + 1 : Nat) : Int) := i64_in (by omega) (by omega)
            obtain ⟨r1, r2⟩ := hrows c hc
            have hqi' : (bRow (ch2 N M) ((a : Int), (b : Int)) i q c).getD i (((a : Int), (b : Int)), -1, -1) = ((s1, s2), u, x) := by
              rw [← hqi]; exact bRow_get _ _ hi c
            have hpk := ch2_len h g ha hb r1
            have hstp : bRow (ch2 N M) ((a : Int), (b : Int)) i q (c + 1) = bStep (ch2 N M) ((a : Int), (b : Int)) i c (bRow (ch2 N M) ((a : Int), (b : Int)) i q c) := rfl
            generalize bRow (ch2 N M) ((a : Int), (b : Int)) i q c = p at *
            unfold bStep at hstp
            rw [hqi'] at hstp
            have ht1 := c_To h a F s1 c
            have ht2 := c_To g b G s2 c
            have hch : ch2 N M (s1, s2) c = if toD N s1 c < 0 ∧ toD M s2 c < 0 then none else some (toD N s1 c, toD M s2 c) := rfl
            simp only [hch] at hstp
            generalize toD N s1 c = t1 at *
            generalize toD M s2 c = t2 at *
            have hget := mget_q (t1, t2) p
            have hset := mset_q (t1, t2) i c p
            simp only [keyS] at hget hset
            have hap := qRows_snoc p t1 t2 i c
            have htk : List.take p.length p = p := List.take_of_length_le (Nat.le_refl _)
            have r4 : ∀ d1 d2 d3 d4 : D, (∀ row ∈ [[d1, d2, d3, d4]], row.length = 4) = True := fun _ _ _ _ => by simp
            have hpl : (p ++ [((t1, t2), (i : Int), (c : Int))]).length = p.length + 1 := by simp
            have e16 : decide ((p.length : Int) ≥ 16000) = false := by simp; omega
            (repeat (first | refine awp_seq ?_ | refine awp_block ?_ | ((first | refine awp_skip ?_ | refine awp_exit ?_ | refine awp_reg ttok ?_ | (refine awp_draw ttok ?dr_calm ?_; (case dr_calm => decide +kernel)) | refine awp_condM ?_); simp (maxSteps := 4000000) only [↓reduceIte, Nat.reduceLT, Nat.reduceEqDiff, reduceCtorEq, Nat.reduceAdd, Nat.reduceMul, Int.reduceLE, Int.reduceLT, Int.reduceToNat, Nat.reduceLeDiff, Nat.reduceSub, Int.reduceEq, Nat.reduceBEq, List.replicate, List.set, if_false, if_true, ne_eq, false_implies, implies_true, evA, tyA, d2]; (repeat (with_reducible refine And.intro ?_ ?_; focus ((repeat' with_reducible apply And.intro) <;> (first | omega | with_reducible trivial | with_reducible assumption)))); (with_reducible first | refine awp_id ?_ | refine id_call ?_ | refine id_and ?_ | refine id_ex ?_ | refine id_all ?_ | refine id_nat ?_ | refine id_le ?_))))
            refine awp_drawS ttok (mkSM 112 [(2, .ptr 1000 0 0), (3, .ptr 1001 0 0), (7, .own 4005 0 p.length), (8, .v (.map (some mb))), (9, i64 i), (10, .ptr 9004 0 0), (11, i64 c), (12, .ptr 15013 0 0), (64, i64 L), (65, i64 c)]
              [(1000, { sz := 4, rows := [[i64 L, i64 a, .sl false (bos F), .sl false (iis N)]], flat := false }), (1001, { sz := 4, rows := [[i64 L, i64 b, .sl false (bos G), .sl false (iis M)]], flat := false }), (4005, { sz := 4, rows := qRows p }), (9004, { sz := 4, rows := [[i64 s1, i64 s2, i64 u, i64 x]], flat := false }), (15013, { sz := 4, rows := [[i64 t1, i64 t2, i64 i, i64 c]], flat := false })] ⟨mb, .pair 3, qMap p⟩) (.nd 4 13 .lf (.nd 9 13 .lf .lf)) [((0, none) :: (1, none) :: (2, none) :: (3, none) :: (5, none) :: (6, none) :: (7, none) :: (8, none) :: (10, none) :: (11, none) :: (13, some [0, 1, 2, 3, 5, 6, 7, 8, 10, 11]) :: (4, some [5, 6, 7, 8, 10, 11]) :: (9, some [10, 11]) :: (12, none) :: (14, some []) :: []), ((0, none) :: (1, none) :: (2, none) :: (3, none) :: (5, none) :: (6, none) :: (7, none) :: (8, none) :: (10, none) :: (11, none) :: (4, some [5, 6, 7, 8, 10, 11]) :: (13, some [5, 6, 7, 8, 10, 11]) :: (9, some [10, 11]) :: (12, none) :: (14, some []) :: []), ((0, none) :: (1, none) :: (2, none) :: (3, none) :: (5, none) :: (6, none) :: (7, none) :: (8, none) :: (10, none) :: (11, none) :: (4, some [5, 6, 7, 8, 10, 11]) :: (9, some [10, 11]) :: (12, none) :: (13, some [10, 11, 12]) :: (14, some []) :: [])] [0, 1, 2, 3, 5, 6, 7, 8, 10, 11, 4, 9, 12, 13, 14] [] [] (by decide +kernel) ?_ (fun O hO => ?_)
            rotate_left
            · simp only [OpsAre, Nat.reduceAdd, and_true] at hO
              simp only [aopsS_cons, aopsS_nil, and_true]
              refine ⟨?_, ?_, ?_⟩
              all_goals
                simp (maxSteps := 4000000) only [↓reduceIte, Nat.reduceLT, Nat.reduceEqDiff, reduceCtorEq, Nat.reduceAdd, Nat.reduceMul, Int.reduceLE, Int.reduceLT, Int.reduceToNat, Nat.reduceLeDiff, Nat.reduceSub, Int.reduceEq, Nat.reduceBEq, List.replicate, List.set, if_false, if_true, ne_eq, false_implies, implies_true, evA, tyA, hO]; (repeat (with_reducible refine And.intro ?_ ?_; focus ((repeat' with_reducible apply And.intro) <;> (first | omega | with_reducible trivial | with_reducible assumption))))
                refine callVC_scal fnok28 ht1 rfl ?_
                simp (maxSteps := 4000000) only [↓reduceIte, Nat.reduceLT, Nat.reduceEqDiff, reduceCtorEq, Nat.reduceAdd, Nat.reduceMul, Int.reduceLE, Int.reduceLT, Int.reduceToNat, Nat.reduceLeDiff, Nat.reduceSub, Int.reduceEq, Nat.reduceBEq, List.replicate, List.set, if_false, if_true, ne_eq, false_implies, implies_true, evA, tyA, hO]
                (repeat (with_reducible refine And.intro ?_ ?_; focus ((repeat' with_reducible apply And.intro) <;> (first | omega | with_reducible trivial | with_reducible assumption))))
                refine callVC_scal fnok28 ht2 rfl ?_
                simp (maxSteps := 4000000) only [↓reduceIte, Nat.reduceLT, Nat.reduceEqDiff, reduceCtorEq, Nat.reduceAdd, Nat.reduceMul, Int.reduceLE, Int.reduceLT, Int.reduceToNat, Nat.reduceLeDiff, Nat.reduceSub, Int.reduceEq, Nat.reduceBEq, List.replicate, List.set, if_false, if_true, ne_eq, false_implies, implies_true, evA, tyA, hO]
                (repeat (with_reducible refine And.intro ?_ ?_; focus ((repeat' with_reducible apply And.intro) <;> (first | omega | with_reducible trivial | with_reducible assumption))))
                refine mkSM_le rfl ?_ ?_ ?_
                · simp (maxSteps := 4000000) only [↓reduceIte, Nat.reduceLT, Nat.reduceEqDiff, reduceCtorEq, Nat.reduceAdd, Nat.reduceMul, Int.reduceLE, Int.reduceLT, Int.reduceToNat, Nat.reduceLeDiff, Nat.reduceSub, Int.reduceEq, Nat.reduceBEq, List.replicate, List.set, if_false, if_true, ne_eq, false_implies, implies_true, evA]
                · simp (maxSteps := 4000000) only [↓reduceIte, Nat.reduceLT, Nat.reduceEqDiff, reduceCtorEq, Nat.reduceAdd, Nat.reduceMul, Int.reduceLE, Int.reduceLT, Int.reduceToNat, Nat.reduceLeDiff, Nat.reduceSub, Int.reduceEq, Nat.reduceBEq, List.replicate, List.set, if_false, if_true, ne_eq, false_implies, implies_true, evA]
                · simp (maxSteps := 4000000) only [↓reduceIte, Nat.reduceLT, Nat.reduceEqDiff, reduceCtorEq, Nat.reduceAdd, Nat.reduceMul, Int.reduceLE, Int.reduceLT, Int.reduceToNat, Nat.reduceLeDiff, Nat.reduceSub, Int.reduceEq, Nat.reduceBEq, List.replicate, List.set, if_false, if_true, ne_eq, false_implies, implies_true, evA]
            by_cases h01 : t1 < 0
            · have f1 : decide (t1 < 0) = true := by simpa using h01
              by_cases h02 : t2 < 0
              · have f2 : decide (t2 < 0) = true := by simpa using h02
                rw [if_pos ⟨h01, h02⟩] at hstp
                simp only at hstp
                (repeat (first | refine awp_seq ?_ | refine awp_block ?_ | ((first | refine awp_skip ?_ | refine awp_exit ?_ | refine awp_reg ttok ?_ | (refine awp_draw ttok ?dr_calm ?_; (case dr_calm => decide +kernel)) | refine awp_condM ?_); simp (maxSteps := 4000000) only [↓reduceIte, Nat.reduceLT, Nat.reduceEqDiff, reduceCtorEq, Nat.reduceAdd, Nat.reduceMul, Int.reduceLE, Int.reduceLT, Int.reduceToNat, Nat.reduceLeDiff, Nat.reduceSub, Int.reduceEq, Nat.reduceBEq, List.replicate, List.set, if_false, if_true, ne_eq, false_implies, implies_true, evA, tyA, f1, f2, hwi]; (repeat (with_reducible refine And.intro ?_ ?_; focus ((repeat' with_reducible apply And.intro) <;> (first | omega | with_reducible trivial | with_reducible assumption)))); (with_reducible first | refine awp_id ?_ | refine id_call ?_ | refine id_and ?_ | refine id_ex ?_ | refine id_all ?_ | refine id_nat ?_ | refine id_le ?_))))
                refine ⟨c + 1, by omega, by omega, ?_⟩
                refine mkSM_le rfl ?_ ?_ ?_
                · simp (maxSteps := 4000000) only [↓reduceIte, Nat.reduceLT, Nat.reduceEqDiff, reduceCtorEq, Nat.reduceAdd, Nat.reduceMul, Int.reduceLE, Int.reduceLT, Int.reduceToNat, Nat.reduceLeDiff, Nat.reduceSub, Int.reduceEq, Nat.reduceBEq, List.replicate, List.set, if_false, if_true, ne_eq, false_implies, implies_true, evA, hstp]
                · simp (maxSteps := 4000000) only [↓reduceIte, Nat.reduceLT, Nat.reduceEqDiff, reduceCtorEq, Nat.reduceAdd, Nat.reduceMul, Int.reduceLE, Int.reduceLT, Int.reduceToNat, Nat.reduceLeDiff, Nat.reduceSub, Int.reduceEq, Nat.reduceBEq, List.replicate, List.set, if_false, if_true, ne_eq, false_implies, implies_true, evA, hstp]
                · simp (maxSteps := 4000000) only [↓reduceIte, Nat.reduceLT, Nat.reduceEqDiff, reduceCtorEq, Nat.reduceAdd, Nat.reduceMul, Int.reduceLE, Int.reduceLT, Int.reduceToNat, Nat.reduceLeDiff, Nat.reduceSub, Int.reduceEq, Nat.reduceBEq, List.replicate, List.set, if_false, if_true, ne_eq, false_implies, implies_true, evA, hstp]
              · have f2 : decide (t2 < 0) = false := by simpa using h02
                rw [if_neg (by omega)] at hstp
                simp only at hstp
                cases hsn : (p.any fun e => e.1 == (t1, t2))
                · rw [hsn, if_neg (by simp)] at hget hstp
                  have hset := hset hsn
                  (repeat (first | refine awp_seq ?_ | refine awp_block ?_ | ((first | refine awp_skip ?_ | refine awp_exit ?_ | refine awp_reg ttok ?_ | (refine awp_draw ttok ?dr_calm ?_; (case dr_calm => decide +kernel)) | refine awp_condM ?_); simp (maxSteps := 4000000) only [↓reduceIte, Nat.reduceLT, Nat.reduceEqDiff, reduceCtorEq, Nat.reduceAdd, Nat.reduceMul, Int.reduceLE, Int.reduceLT, Int.reduceToNat, Nat.reduceLeDiff, Nat.reduceSub, Int.reduceEq, Nat.reduceBEq, List.replicate, List.set, if_false, if_true, ne_eq, false_implies, implies_true, evA, tyA, f1, f2, hmT, hget, qRows_len, e16, qRows_take, htk, hap, r4, hset, hwi]; (repeat (with_reducible refine And.intro ?_ ?_; focus ((repeat' with_reducible apply And.intro) <;> (first | omega | with_reducible trivial | with_reducible assumption)))); (with_reducible first | refine awp_id ?_ | refine id_call ?_ | refine id_and ?_ | refine id_ex ?_ | refine id_all ?_ | refine id_nat ?_ | refine id_le ?_))))
                  refine ⟨c + 1, by omega, by omega, ?_⟩
                  refine mkSM_le rfl ?_ ?_ ?_
                  · simp (maxSteps := 4000000) only [↓reduceIte, Nat.reduceLT, Nat.reduceEqDiff, reduceCtorEq, Nat.reduceAdd, Nat.reduceMul, Int.reduceLE, Int.reduceLT, Int.reduceToNat, Nat.reduceLeDiff, Nat.reduceSub, Int.reduceEq, Nat.reduceBEq, List.replicate, List.set, if_false, if_true, ne_eq, false_implies, implies_true, evA, hstp, hpl]
                  · simp (maxSteps := 4000000) only [↓reduceIte, Nat.reduceLT, Nat.reduceEqDiff, reduceCtorEq, Nat.reduceAdd, Nat.reduceMul, Int.reduceLE, Int.reduceLT, Int.reduceToNat, Nat.reduceLeDiff, Nat.reduceSub, Int.reduceEq, Nat.reduceBEq, List.replicate, List.set, if_false, if_true, ne_eq, false_implies, implies_true, evA, hstp, qRows_take, htk, hap]
                  · simp (maxSteps := 4000000) only [↓reduceIte, Nat.reduceLT, Nat.reduceEqDiff, reduceCtorEq, Nat.reduceAdd, Nat.reduceMul, Int.reduceLE, Int.reduceLT, Int.reduceToNat, Nat.reduceLeDiff, Nat.reduceSub, Int.reduceEq, Nat.reduceBEq, List.replicate, List.set, if_false, if_true, ne_eq, false_implies, implies_true, evA, hstp, hset]
                · rw [hsn, if_pos rfl] at hget hstp
                  (repeat (first | refine awp_seq ?_ | refine awp_block ?_ | ((first | refine awp_skip ?_ | refine awp_exit ?_ | refine awp_reg ttok ?_ | (refine awp_draw ttok ?dr_calm ?_; (case dr_calm => decide +kernel)) | refine awp_condM ?_); simp (maxSteps := 4000000) only [↓reduceIte, Nat.reduceLT, Nat.reduceEqDiff, reduceCtorEq, Nat.reduceAdd, Nat.reduceMul, Int.reduceLE, Int.reduceLT, Int.reduceToNat, Nat.reduceLeDiff, Nat.reduceSub, Int.reduceEq, Nat.reduceBEq, List.replicate, List.set, if_false, if_true, ne_eq, false_implies, implies_true, evA, tyA, f1, f2, hmT, hget, hwi]; (repeat (with_reducible refine And.intro ?_ ?_; focus ((repeat' with_reducible apply And.intro) <;> (first | omega | with_reducible trivial | with_reducible assumption)))); (with_reducible first | refine awp_id ?_ | refine id_call ?_ | refine id_and ?_ | refine id_ex ?_ | refine id_all ?_ | refine id_nat ?_ | refine id_le ?_))))
                  refine ⟨c + 1, by omega, by omega, ?_⟩
                  refine mkSM_le rfl ?_ ?_ ?_
                  · simp (maxSteps := 4000000) only [↓reduceIte, Nat.reduceLT, Nat.reduceEqDiff, reduceCtorEq, Nat.reduceAdd, Nat.reduceMul, Int.reduceLE, Int.reduceLT, Int.reduceToNat, Nat.reduceLeDiff, Nat.reduceSub, Int.reduceEq, Nat.reduceBEq, List.replicate, List.set, if_false, if_true, ne_eq, false_implies, implies_true, evA, hstp]
                  · simp (maxSteps := 4000000) only [↓reduceIte, Nat.reduceLT, Nat.reduceEqDiff, reduceCtorEq, Nat.reduceAdd, Nat.reduceMul, Int.reduceLE, Int.reduceLT, Int.reduceToNat, Nat.reduceLeDiff, Nat.reduceSub, Int.reduceEq, Nat.reduceBEq, List.replicate, List.set, if_false, if_true, ne_eq, false_implies, implies_true, evA, hstp]
                  · simp (maxSteps := 4000000) only [↓reduceIte, Nat.reduceLT, Nat.reduceEqDiff, reduceCtorEq, Nat.reduceAdd, Nat.reduceMul, Int.reduceLE, Int.reduceLT, Int.reduceToNat, Nat.reduceLeDiff, Nat.reduceSub, Int.reduceEq, Nat.reduceBEq, List.replicate, List.set, if_false, if_true, ne_eq, false_implies, implies_true, evA, hstp]
            · have f1 : decide (t1 < 0) = false := by simpa using h01
              rw [if_neg (by omega)] at hstp
              simp only at hstp
              cases hsn : (p.any fun e => e.1 == (t1, t2))
              · rw [hsn, if_neg (by simp)] at hget hstp
                have hset := hset hsn
                (repeat (first | refine awp_seq ?_ | refine awp_block ?_ | ((first | refine awp_skip ?_ | refine awp_exit ?_ | refine awp_reg ttok ?_ | (refine awp_draw ttok ?dr_calm ?_; (case dr_calm => decide +kernel)) | refine awp_condM ?_); simp (maxSteps := 4000000) only [↓reduceIte, Nat.reduceLT, Nat.reduceEqDiff, reduceCtorEq, Nat.reduceAdd, Nat.reduceMul, Int.reduceLE, Int.reduceLT, Int.reduceToNat, Nat.reduceLeDiff, Nat.reduceSub, Int.reduceEq, Nat.reduceBEq, List.replicate, List.set, if_false, if_true, ne_eq, false_implies, implies_true, evA, tyA, f1, hmT, hget, qRows_len, e16, qRows_take, htk, hap, r4, hset, hwi]; (repeat (with_reducible refine And.intro ?_ ?_; focus ((repeat' with_reducible apply And.intro) <;> (first | omega | with_reducible trivial | with_reducible assumption)))); (with_reducible first | refine awp_id ?_ | refine id_call ?_ | refine id_and ?_ | refine id_ex ?_ | refine id_all ?_ | refine id_nat ?_ | refine id_le ?_))))
                refine ⟨c + 1, by omega, by omega, ?_⟩
                refine mkSM_le rfl ?_ ?_ ?_
                · simp (maxSteps := 4000000) only [↓reduceIte, Nat.reduceLT, Nat.reduceEqDiff, reduceCtorEq, Nat.reduceAdd, Nat.reduceMul, Int.reduceLE, Int.reduceLT, Int.reduceToNat, Nat.reduceLeDiff, Nat.reduceSub, Int.reduceEq, Nat.reduceBEq, List.replicate, List.set, if_false, if_true, ne_eq, false_implies, implies_true, evA, hstp, hpl]
                · simp (maxSteps := 4000000) only [↓reduceIte, Nat.reduceLT, Nat.reduceEqDiff, reduceCtorEq, Nat.reduceAdd, Nat.reduceMul, Int.reduceLE, Int.reduceLT, Int.reduceToNat, Nat.reduceLeDiff, Nat.reduceSub, Int.reduceEq, Nat.reduceBEq, List.replicate, List.set, if_false, if_true, ne_eq, false_implies, implies_true, evA, hstp, qRows_take, htk, hap]
                · simp (maxSteps := 4000000) only [↓reduceIte, Nat.reduceLT, Nat.reduceEqDiff, reduceCtorEq, Nat.reduceAdd, Nat.reduceMul, Int.reduceLE, Int.reduceLT, Int.reduceToNat, Nat.reduceLeDiff, Nat.reduceSub, Int.reduceEq, Nat.reduceBEq, List.replicate, List.set, if_false, if_true, ne_eq, false_implies, implies_true, evA, hstp, hset]
              · rw [hsn, if_pos rfl] at hget hstp
                (repeat (first | refine awp_seq ?_ | refine awp_block ?_ | ((first | refine awp_skip ?_ | refine awp_exit ?_ | refine awp_reg ttok ?_ | (refine awp_draw ttok ?dr_calm ?_; (case dr_calm => decide +kernel)) | refine awp_condM ?_); simp (maxSteps := 4000000) only [↓reduceIte, Nat.reduceLT, Nat.reduceEqDiff, reduceCtorEq, Nat.reduceAdd, Nat.reduceMul, Int.reduceLE, Int.reduceLT, Int.reduceToNat, Nat.reduceLeDiff, Nat.reduceSub, Int.reduceEq, Nat.reduceBEq, List.replicate, List.set, if_false, if_true, ne_eq, false_implies, implies_true, evA, tyA, f1, hmT, hget, hwi]; (repeat (with_reducible refine And.intro ?_ ?_; focus ((repeat' with_reducible apply And.intro) <;> (first | omega | with_reducible trivial | with_reducible assumption)))); (with_reducible first | refine awp_id ?_ | refine id_call ?_ | refine id_and ?_ | refine id_ex ?_ | refine id_all ?_ | refine id_nat ?_ | refine id_le ?_))))
                refine ⟨c + 1, by omega, by omega, ?_⟩
                refine mkSM_le rfl ?_ ?_ ?_
                · simp (maxSteps := 4000000) only [↓reduceIte, Nat.reduceLT, Nat.reduceEqDiff, reduceCtorEq, Nat.reduceAdd, Nat.reduceMul, Int.reduceLE, Int.reduceLT, Int.reduceToNat, Nat.reduceLeDiff, Nat.reduceSub, Int.reduceEq, Nat.reduceBEq, List.replicate, List.set, if_false, if_true, ne_eq, false_implies, implies_true, evA, hstp]
                · simp (maxSteps := 4000000) only [↓reduceIte, Nat.reduceLT, Nat.reduceEqDiff, reduceCtorEq, Nat.reduceAdd, Nat.reduceMul, Int.reduceLE, Int.reduceLT, Int.reduceToNat, Nat.reduceLeDiff, Nat.reduceSub, Int.reduceEq, Nat.reduceBEq, List.replicate, List.set, if_false, if_true, ne_eq, false_implies, implies_true, evA, hstp]
                · simp (maxSteps := 4000000) only [↓reduceIte, Nat.reduceLT, Nat.reduceEqDiff, reduceCtorEq, Nat.reduceAdd, Nat.reduceMul, Int.reduceLE, Int.reduceLT, Int.reduceToNat, Nat.reduceLeDiff, Nat.reduceSub, Int.reduceEq, Nat.reduceBEq, List.replicate, List.set, if_false, if_true, ne_eq, false_implies, implies_true, evA, hstp]
          · have d2 : decide ((c : Int) < (L : Int)) = false := by simpa using hcl
            obtain rfl : c = L := by omega
            obtain ⟨r1, r2⟩ := hrows c (Nat.le_refl _)
            have hwi : IntKind.i64.wrap ((i : Int) + 1) = ((i + 1 : Nat) : Int) := i64_in (by omega) (by omega)
            rw [← hnx] at r2 ⊢
            (repeat (first | refine awp_seq ?_ | refine awp_block ?_ | ((first | refine awp_skip ?_ | refine awp_exit ?_ | refine awp_reg ttok ?_ | (refine awp_draw ttok ?dr_calm ?_; (case dr_calm => decide +kernel)) | refine awp_condM ?_); simp (maxSteps := 4000000) only [↓reduceIte, Nat.reduceLT, Nat.reduceEqDiff, reduceCtorEq, Nat.reduceAdd, Nat.reduceMul, Int.reduceLE, Int.reduceLT, Int.reduceToNat, Nat.reduceLeDiff, Nat.reduceSub, Int.reduceEq, Nat.reduceBEq, List.replicate, List.set, if_false, if_true, ne_eq, false_implies, implies_true, evA, tyA, d2, hwi]; (repeat (with_reducible refine And.intro ?_ ?_; focus ((repeat' with_reducible apply And.intro) <;> (first | omega | with_reducible trivial | with_reducible assumption)))); (with_reducible first | refine awp_id ?_ | refine id_call ?_ | refine id_and ?_ | refine id_ex ?_ | refine id_all ?_ | refine id_nat ?_ | refine id_le ?_))))
            refine ⟨i + 1, ⟨fun j hj => ?_, by omega, by rw [← hnn]; exact h3⟩, by omega, ?_⟩
            · rcases Nat.lt_or_ge j i with g | g
              · exact h1 j g
              · obtain rfl : j = i := by omega
                rw [hqe]; exact hi
            · refine mkSM_le rfl ?_ ?_ ?_
              · simp (maxSteps := 4000000) only [↓reduceIte, Nat.reduceLT, Nat.reduceEqDiff, reduceCtorEq, Nat.reduceAdd, Nat.reduceMul, Int.reduceLE, Int.reduceLT, Int.reduceToNat, Nat.reduceLeDiff, Nat.reduceSub, Int.reduceEq, Nat.reduceBEq, List.replicate, List.set, if_false, if_true, ne_eq, false_implies, implies_true, evA]
              · simp (maxSteps := 4000000) only [↓reduceIte, Nat.reduceLT, Nat.reduceEqDiff, reduceCtorEq, Nat.reduceAdd, Nat.reduceMul, Int.reduceLE, Int.reduceLT, Int.reduceToNat, Nat.reduceLeDiff, Nat.reduceSub, Int.reduceEq, Nat.reduceBEq, List.replicate, List.set, if_false, if_true, ne_eq, false_implies, implies_true, evA]
              · simp (maxSteps := 4000000) only [↓reduceIte, Nat.reduceLT, Nat.reduceEqDiff, reduceCtorEq, Nat.reduceAdd, Nat.reduceMul, Int.reduceLE, Int.reduceLT, Int.reduceToNat, Nat.reduceLeDiff, Nat.reduceSub, Int.reduceEq, Nat.reduceBEq, List.replicate, List.set, if_false, if_true, ne_eq, false_implies, implies_true, evA]
      · rw [hfin, hAB, if_pos rfl] at h3
        rw [← h3]
        have htk : List.take q.length q = q := List.take_of_length_le (Nat.le_refl _)
        have hAB2 : (!(A == B)) = true := hAB
        (repeat (first | refine awp_seq ?_ | refine awp_block ?_ | ((first | refine awp_skip ?_ | refine awp_exit ?_ | refine awp_reg ttok ?_ | (refine awp_draw ttok ?dr_calm ?_; (case dr_calm => decide +kernel)) | refine awp_condM ?_); simp (maxSteps := 4000000) only [↓reduceIte, Nat.reduceLT, Nat.reduceEqDiff, reduceCtorEq, Nat.reduceAdd, Nat.reduceMul, Int.reduceLE, Int.reduceLT, Int.reduceToNat, Nat.reduceLeDiff, Nat.reduceSub, Int.reduceEq, Nat.reduceBEq, List.replicate, List.set, if_false, if_true, ne_eq, false_implies, implies_true, evA, tyA, hAB, hAB2, qRows_len, qRows_take, htk]; (repeat (with_reducible refine And.intro ?_ ?_; focus ((repeat' with_reducible apply And.intro) <;> (first | omega | with_reducible trivial | with_reducible assumption)))); (with_reducible first | refine awp_id ?_ | refine id_call ?_ | refine id_and ?_ | refine id_ex ?_ | refine id_all ?_ | refine id_nat ?_ | refine id_le ?_))))
        refine callVC_mk fnok27 hwc rfl ?_
        simp (maxSteps := 4000000) only [↓reduceIte, Nat.reduceLT, Nat.reduceEqDiff, reduceCtorEq, Nat.reduceAdd, Nat.reduceMul, Int.reduceLE, Int.reduceLT, Int.reduceToNat, Nat.reduceLeDiff, Nat.reduceSub, Int.reduceEq, Nat.reduceBEq, List.replicate, List.set, if_false, if_true, ne_eq, false_implies, implies_true, evA, tyA, qRows_len]
        (repeat (with_reducible refine And.intro ?_ ?_; focus ((repeat' with_reducible apply And.intro) <;> (first | omega | with_reducible trivial | with_reducible assumption))))
        (repeat (first | refine awp_seq ?_ | refine awp_block ?_ | ((first | refine awp_skip ?_ | refine awp_exit ?_ | refine awp_reg ttok ?_ | (refine awp_draw ttok ?dr_calm ?_; (case dr_calm => decide +kernel)) | refine awp_condM ?_); simp (maxSteps := 4000000) only [↓reduceIte, Nat.reduceLT, Nat.reduceEqDiff, reduceCtorEq, Nat.reduceAdd, Nat.reduceMul, Int.reduceLE, Int.reduceLT, Int.reduceToNat, Nat.reduceLeDiff, Nat.reduceSub, Int.reduceEq, Nat.reduceBEq, List.replicate, List.set, if_false, if_true, ne_eq, false_implies, implies_true, evA, tyA]; (repeat (with_reducible refine And.intro ?_ ?_; focus ((repeat' with_reducible apply And.intro) <;> (first | omega | with_reducible trivial | with_reducible assumption)))); (with_reducible first | refine awp_id ?_ | refine id_call ?_ | refine id_and ?_ | refine id_ex ?_ | refine id_all ?_ | refine id_nat ?_ | refine id_le ?_))))
        refine awp_pure 4 (d := .own 111002 0 (wordQ ((a : Int), (b : Int)) q q.length i).length) (by simp (maxSteps := 4000000) only [↓reduceIte, Nat.reduceLT, Nat.reduceEqDiff, reduceCtorEq, Nat.reduceAdd, Nat.reduceMul, Int.reduceLE, Int.reduceLT, Int.reduceToNat, Nat.reduceLeDiff, Nat.reduceSub, Int.reduceEq, Nat.reduceBEq, List.replicate, List.set, if_false, if_true, ne_eq, false_implies, implies_true, evA]) (by simp (maxSteps := 4000000) only [↓reduceIte, Nat.reduceLT, Nat.reduceEqDiff, reduceCtorEq, Nat.reduceAdd, Nat.reduceMul, Int.reduceLE, Int.reduceLT, Int.reduceToNat, Nat.reduceLeDiff, Nat.reduceSub, Int.reduceEq, Nat.reduceBEq, List.replicate, List.set, if_false, if_true, ne_eq, false_implies, implies_true, evA]; rfl) (by simp (maxSteps := 4000000) only [↓reduceIte, Nat.reduceLT, Nat.reduceEqDiff, reduceCtorEq, Nat.reduceAdd, Nat.reduceMul, Int.reduceLE, Int.reduceLT, Int.reduceToNat, Nat.reduceLeDiff, Nat.reduceSub, Int.reduceEq, Nat.reduceBEq, List.replicate, List.set, if_false, if_true, ne_eq, false_implies, implies_true, evA, nInts_len]) ?_
        exact awp_ret (endsV [] (.inr rfl) (by simp (maxSteps := 4000000) only [↓reduceIte, Nat.reduceLT, Nat.reduceEqDiff, reduceCtorEq, Nat.reduceAdd, Nat.reduceMul, Int.reduceLE, Int.reduceLT, Int.reduceToNat, Nat.reduceLeDiff, Nat.reduceSub, Int.reduceEq, Nat.reduceBEq, List.replicate, List.set, if_false, if_true, ne_eq, false_implies, implies_true, evA, tyA, shW, nInts_take, List.take_length] <;> rfl) trivial)
    · rw [if_neg hi] at h3
      have d1 : decide ((i : Int) < (q.length : Int)) = false := by simpa using hi
      rw [← h3]
      (repeat (first | refine awp_seq ?_ | refine awp_block ?_ | ((first | refine awp_skip ?_ | refine awp_exit ?_ | refine awp_reg ttok ?_ | (refine awp_draw ttok ?dr_calm ?_; (case dr_calm => decide +kernel)) | refine awp_condM ?_); simp (maxSteps := 4000000) only [↓reduceIte, Nat.reduceLT, Nat.reduceEqDiff, reduceCtorEq, Nat.reduceAdd, Nat.reduceMul, Int.reduceLE, Int.reduceLT, Int.reduceToNat, Nat.reduceLeDiff, Nat.reduceSub, Int.reduceEq, Nat.reduceBEq, List.replicate, List.set, if_false, if_true, ne_eq, false_implies, implies_true, evA, tyA, qRows_len, d1]; (repeat (with_reducible refine And.intro ?_ ?_; focus ((repeat' with_reducible apply And.intro) <;> (first | omega | with_reducible trivial | with_reducible assumption)))); (with_reducible first | refine awp_id ?_ | refine id_call ?_ | refine id_and ?_ | refine id_ex ?_ | refine id_all ?_ | refine id_nat ?_ | refine id_le ?_))))
      exact awp_ret (endsV [] (.inr rfl) (by simp (maxSteps := 4000000) only [↓reduceIte, Nat.reduceLT, Nat.reduceEqDiff, reduceCtorEq, Nat.reduceAdd, Nat.reduceMul, Int.reduceLE, Int.reduceLT, Int.reduceToNat, Nat.reduceLeDiff, Nat.reduceSub, Int.reduceEq, Nat.reduceBEq, List.replicate, List.set, if_false, if_true, ne_eq, false_implies, implies_true, evA, tyA, shW] <;> rfl) trivial)

set_option maxRecDepth 20000 in
theorem c_Equal {L k m : Nat} {N M : List (List Int)} (h : NOk L k N) (g : NOk L m M) (a b : Nat) (ha : a < k) (hb : b < m) (F G : List Bool) (hF : F.length = k) (hG : G.length = m) (hL : L ≤ 100000) (hk : 1 ≤ k ∧ k ≤ 2000) (hm : 1 ≤ m ∧ m ≤ 2000) (hkm : (k + 1) * (m + 1) < 16000) :
    Contract Try.prog 10 [dfaD L a F N, dfaD L b G M] (bo (srch (ch2 N M) ((a : Int), (b : Int)) L (fin2 F G) 20000 0).isNone) [] := by
  refine contract_of_awp (rs := [4]) Try.func10 rfl Try.ntmps10 (by simp) rfl fun E => ?_
  have k0 : ((0 : Int) == 0) = true := rfl
  have hD := c_Differ h g a b ha hb F G hF hG hL hk hm hkm
  generalize srch (ch2 N M) ((a : Int), (b : Int)) L (fin2 F G) 20000 0 = R at *
  (repeat (first | refine awp_seq ?_ | refine awp_block ?_ | ((first | refine awp_skip ?_ | refine awp_exit ?_ | refine awp_reg ttok ?_ | (refine awp_draw ttok ?dr_calm ?_; (case dr_calm => decide +kernel)) | refine awp_condM ?_); simp (maxSteps := 4000000) only [↓reduceIte, Nat.reduceLT, Nat.reduceEqDiff, reduceCtorEq, Nat.reduceAdd, Nat.reduceMul, Int.reduceLE, Int.reduceLT, Int.reduceToNat, Nat.reduceLeDiff, Nat.reduceSub, Int.reduceEq, Nat.reduceBEq, List.replicate, List.set, if_false, if_true, ne_eq, false_implies, implies_true, evA, tyA, dfaD]; (repeat (with_reducible refine And.intro ?_ ?_; focus ((repeat' with_reducible apply And.intro) <;> (first | omega | with_reducible trivial | with_reducible assumption)))); (with_reducible first | refine awp_id ?_ | refine id_call ?_ | refine id_and ?_ | refine id_ex ?_ | refine id_all ?_ | refine id_nat ?_ | refine id_le ?_))))
  refine callVC_mk fnok8 hD rfl ?_
  simp (maxSteps := 4000000) only [↓reduceIte, Nat.reduceLT, Nat.reduceEqDiff, reduceCtorEq, Nat.reduceAdd, Nat.reduceMul, Int.reduceLE, Int.reduceLT, Int.reduceToNat, Nat.reduceLeDiff, Nat.reduceSub, Int.reduceEq, Nat.reduceBEq, List.replicate, List.set, if_false, if_true, ne_eq, false_implies, implies_true, evA, tyA, k0]
  (repeat (with_reducible refine And.intro ?_ ?_; focus ((repeat' with_reducible apply And.intro) <;> (first | omega | with_reducible trivial | with_reducible assumption))))
  (repeat (first | refine awp_seq ?_ | refine awp_block ?_ | ((first | refine awp_skip ?_ | refine awp_exit ?_ | refine awp_reg ttok ?_ | (refine awp_draw ttok ?dr_calm ?_; (case dr_calm => decide +kernel)) | refine awp_condM ?_); simp (maxSteps := 4000000) only [↓reduceIte, Nat.reduceLT, Nat.reduceEqDiff, reduceCtorEq, Nat.reduceAdd, Nat.reduceMul, Int.reduceLE, Int.reduceLT, Int.reduceToNat, Nat.reduceLeDiff, Nat.reduceSub, Int.reduceEq, Nat.reduceBEq, List.replicate, List.set, if_false, if_true, ne_eq, false_implies, implies_true, evA, tyA, k0]; (repeat (with_reducible refine And.intro ?_ ?_; focus ((repeat' with_reducible apply And.intro) <;> (first | omega | with_reducible trivial | with_reducible assumption)))); (with_reducible first | refine awp_id ?_ | refine id_call ?_ | refine id_and ?_ | refine id_ex ?_ | refine id_all ?_ | refine id_nat ?_ | refine id_le ?_))))
  refine awp_ret (ends_plain (.inr rfl) rfl ?_)
  simp (maxSteps := 4000000) only [↓reduceIte, Nat.reduceLT, Nat.reduceEqDiff, reduceCtorEq, Nat.reduceAdd, Nat.reduceMul, Int.reduceLE, Int.reduceLT, Int.reduceToNat, Nat.reduceLeDiff, Nat.reduceSub, Int.reduceEq, Nat.reduceBEq, List.replicate, List.set, if_false, if_true, ne_eq, false_implies, implies_true, evA]
  cases R <;> rfl

end Go.Proofs.Ytcfnbofapjgepaa
