/-
  Plain facts on notes: what is put is got; what is got was put. The contract of rec.Get whatever comes.
-/
import Derived.Test.YtmfonlkigjpjcaaRec
namespace Go.Proofs.Ytmfonlkigjpjcaa
open Go.Ab
set_option linter.unusedSimpArgs false
set_option linter.unusedVariables false

theorem cgGo_put : ∀ (u f i n : Nat) (r : List UInt8), (codePut u).length ≤ f → n + u * 128 ^ i ≤ 2147483647 → (0 < u ∨ i = 0) → cgGo f (codePut u ++ r) i n = (n + u * 128 ^ i, i + (codePut u).length) := by
  intro u
  induction u using Nat.strongRecOn with
  | _ u ih =>
    intro f i n r hf hb hu
    by_cases h : u < 128
    · rw [codePut_small h] at hf ⊢
      cases f with
      | zero => simp at hf
      | succ f =>
        have e : (UInt8.ofNat u).toNat = u := by simp; omega
        have e2 : u % 128 = u := Nat.mod_eq_of_lt h
        rw [List.singleton_append, cgGo, if_neg (by rw [e]; omega), e, e2, if_neg (by omega)]
        rfl
    · rw [codePut_big h] at hf ⊢
      cases f with
      | zero => simp at hf
      | succ f =>
        have e : (low7 u).toNat = u % 128 + 128 := by simp [low7]; omega
        have e2 : (u % 128 + 128) % 128 = u % 128 := by omega
        have e3 : u % 128 * 128 ^ i + u / 128 * 128 ^ (i + 1) = u * 128 ^ i := by
          rw [Nat.pow_succ]
          generalize 128 ^ i = p
          have : u = 128 * (u / 128) + u % 128 := by omega
          generalize u / 128 = a at *
          generalize u % 128 = b at *
          subst this
          rw [Nat.add_mul, Nat.add_comm, ← Nat.mul_assoc, Nat.mul_comm (a * p) 128, Nat.mul_assoc]
        rw [List.cons_append, cgGo, if_pos (by rw [e]; omega), e, e2, ih (u / 128) (by omega) f (i + 1) (n + u % 128 * 128 ^ i) r (by simpa using hf) (by omega) (.inl (by omega))]
        simp only [List.length_cons, Prod.mk.injEq]
        omega

theorem codePut5 {u : Nat} (h : u ≤ 2147483647) : (codePut u).length ≤ 5 := codePut_len10 4 u (by omega)
theorem codeGet_put {u : Nat} (h : u ≤ 2147483647) (r : List UInt8) : codeGet (codePut u ++ r) = (u, (codePut u).length) := by
  unfold codeGet
  rw [cgGo_put u 5 0 0 r (codePut5 h) (by omega) (.inr rfl)]
  simp

theorem cgGo_take : ∀ (f : Nat) (l : List UInt8) (i n m k : Nat), cgGo f l i n = (m, k) → 0 < k → ∃ u, i < k ∧ k - i ≤ l.length ∧ l.take (k - i) = codePut u ∧ m = n + u * 128 ^ i ∧ m ≤ 2147483647 ∧ (0 < u ∨ i = 0) := by
  intro f
  induction f with
  | zero => intro l i n m k h hk; simp [cgGo] at h; omega
  | succ f ih =>
    intro l i n m k h hk
    cases l with
    | nil => simp [cgGo] at h; omega
    | cons c r =>
      have hcl : c.toNat < 256 := c.toNat_lt
      rw [cgGo] at h
      split at h
      · rename_i hc
        obtain ⟨u, h1, h2, h3, h4, h5, h6⟩ := ih r (i + 1) _ m k h hk
        have hu : 0 < u := by omega
        refine ⟨c.toNat % 128 + 128 * u, by omega, by simp only [List.length_cons]; omega, ?_, ?_, h5, .inl (by omega)⟩
        · rw [show k - i = (k - (i + 1)) + 1 by omega, List.take_succ_cons, h3, codePut_big (u := c.toNat % 128 + 128 * u) (by omega)]
          have e1 : (c.toNat % 128 + 128 * u) / 128 = u := by omega
          have e2 : low7 (c.toNat % 128 + 128 * u) = c := by
            apply UInt8.toNat_inj.1
            simp only [low7, UInt8.toNat_ofNat']; omega
          rw [e1, e2]
        · rw [h4, Nat.pow_succ]
          generalize 128 ^ i = p
          rw [Nat.add_mul, Nat.add_assoc]
          congr 2
          rw [Nat.mul_comm p 128, ← Nat.mul_assoc, Nat.mul_comm u 128]
      · rename_i hc
        split at h
        · simp at h; omega
        · rename_i hd
          simp only [Prod.mk.injEq] at h
          obtain ⟨rfl, rfl⟩ := h
          have e2 : c.toNat % 128 = c.toNat := Nat.mod_eq_of_lt (by omega)
          refine ⟨c.toNat, by omega, by simp only [List.length_cons]; omega, ?_, by rw [e2], by rw [e2] at hd ⊢; omega, by omega⟩
          rw [show i + 1 - i = 1 by omega, codePut_small (u := c.toNat) (by omega)]
          have : UInt8.ofNat c.toNat = c := by simp
          rw [this]; rfl

theorem codeGet_take {l : List UInt8} (h : 0 < (codeGet l).2) : l.take (codeGet l).2 = codePut (codeGet l).1 ∧ (codeGet l).1 ≤ 2147483647 ∧ (codeGet l).2 ≤ l.length := by
  obtain ⟨u, h1, h2, h3, h4, h5, h6⟩ := cgGo_take 5 l 0 0 (codeGet l).1 (codeGet l).2 rfl h
  simp only [Nat.sub_zero, Nat.pow_zero, Nat.mul_one, Nat.zero_add] at h2 h3 h4
  exact ⟨by rw [h3, h4], h5, h2⟩
theorem codeGet_le (l : List UInt8) : (codeGet l).2 ≤ l.length := by
  by_cases h : 0 < (codeGet l).2
  · exact (codeGet_take h).2.2
  · omega
theorem codeGet_small (l : List UInt8) : (codeGet l).1 ≤ 2147483647 ∨ (codeGet l).2 = 0 := by
  by_cases h : 0 < (codeGet l).2
  · exact .inl (codeGet_take h).2.1
  · exact .inr (by omega)

/-- What is left of bytes behind so many numbers. -/
def rl (l : List UInt8) : Nat → List UInt8
  | 0 => l
  | i + 1 => (rl l i).drop (codeGet (rl l i)).2
def rn (l : List UInt8) (i : Nat) : Nat := (codeGet (rl l i)).1
def rk (l : List UInt8) (i : Nat) : Nat := (codeGet (rl l i)).2
def recOk (l : List UInt8) : Prop := (∀ i, i < 4 → 0 < rk l i) ∧ rl l 4 = []

theorem rl_len (l : List UInt8) : ∀ i, (rl l i).length ≤ l.length
  | 0 => Nat.le_refl _
  | i + 1 => by simp only [rl, List.length_drop]; have := rl_len l i; omega

theorem c_rGetOk (f : Bool) (l : List UInt8) (hl : l.length ≤ 1000000) (h : recOk l) :
    Contract Try.prog 38 [.sl f (bys l)] (.tup [i64 (rn l 0), .agg [i64 (rn l 1), i64 (rn l 2), i64 (rn l 3)], bo true]) [] :=
  c_rGetYes f (rl l) (rn l) (rk l) (fun i hi => ⟨rfl, h.1 i hi, codeGet_le _, rfl, by have := rl_len l i; omega⟩) h.2

theorem recOk_put {xs : List Int} (h : ∀ j, j < 4 → okN (xs.getD j 0) = true) : recOk (putN xs 4) ∧ ∀ j, j < 4 → (rn (putN xs 4) j : Int) = xs.getD j 0 := by
  have hb : ∀ j, j < 4 → (xs.getD j 0).toNat ≤ 2147483647 ∧ ((xs.getD j 0).toNat : Int) = xs.getD j 0 := fun j hj => by
    have := h j hj
    simp only [okN, Bool.and_eq_true, decide_eq_true_eq] at this
    omega
  have e : putN xs 4 = codePut (xs.getD 0 0).toNat ++ (codePut (xs.getD 1 0).toNat ++ (codePut (xs.getD 2 0).toNat ++ (codePut (xs.getD 3 0).toNat ++ []))) := by simp [putN]
  have g0 := fun r => codeGet_put (hb 0 (by omega)).1 r
  have g1 := fun r => codeGet_put (hb 1 (by omega)).1 r
  have g2 := fun r => codeGet_put (hb 2 (by omega)).1 r
  have g3 := fun r => codeGet_put (hb 3 (by omega)).1 r
  have r0 : rl (putN xs 4) 0 = codePut (xs.getD 0 0).toNat ++ (codePut (xs.getD 1 0).toNat ++ (codePut (xs.getD 2 0).toNat ++ (codePut (xs.getD 3 0).toNat ++ []))) := e
  have r1 : rl (putN xs 4) 1 = codePut (xs.getD 1 0).toNat ++ (codePut (xs.getD 2 0).toNat ++ (codePut (xs.getD 3 0).toNat ++ [])) := by
    rw [rl, r0, g0, List.drop_left]
  have r2 : rl (putN xs 4) 2 = codePut (xs.getD 2 0).toNat ++ (codePut (xs.getD 3 0).toNat ++ []) := by
    rw [rl, r1, g1, List.drop_left]
  have r3 : rl (putN xs 4) 3 = codePut (xs.getD 3 0).toNat ++ [] := by
    rw [rl, r2, g2, List.drop_left]
  have r4 : rl (putN xs 4) 4 = [] := by
    rw [rl, r3, g3, List.drop_left]
  have pos : ∀ u, 0 < (codePut u).length := fun u => by
    by_cases hu : u < 128
    · rw [codePut_small hu]; simp
    · rw [codePut_big hu]; simp
  have c4 : ∀ j, j < 4 → j = 0 ∨ j = 1 ∨ j = 2 ∨ j = 3 := by omega
  refine ⟨⟨fun j hj => ?_, r4⟩, fun j hj => ?_⟩
  · rcases c4 j hj with rfl | rfl | rfl | rfl
    · rw [rk, r0, g0]; exact pos _
    · rw [rk, r1, g1]; exact pos _
    · rw [rk, r2, g2]; exact pos _
    · rw [rk, r3, g3]; exact pos _
  · rcases c4 j hj with rfl | rfl | rfl | rfl
    · rw [rn, r0, g0]; exact (hb 0 (by omega)).2
    · rw [rn, r1, g1]; exact (hb 1 (by omega)).2
    · rw [rn, r2, g2]; exact (hb 2 (by omega)).2
    · rw [rn, r3, g3]; exact (hb 3 (by omega)).2

theorem putN_rn {l : List UInt8} (h : recOk l) : putN [(rn l 0 : Int), (rn l 1 : Int), (rn l 2 : Int), (rn l 3 : Int)] 4 = l := by
  have t : ∀ i, i < 4 → codePut (rn l i) ++ rl l (i + 1) = rl l i := fun i hi => by
    have := codeGet_take (l := rl l i) (h.1 i hi)
    rw [rn, ← this.1, rl]
    exact List.take_append_drop _ _
  simp only [putN, List.getD_cons_zero, List.getD_cons_succ, Int.toNat_natCast, List.nil_append]
  rw [← List.append_nil (codePut (rn l 3)), ← h.2]
  simp only [List.append_assoc]
  rw [t 3 (by omega), t 2 (by omega), t 1 (by omega), t 0 (by omega)]
  rfl
theorem rn_ok {l : List UInt8} (h : recOk l) {i : Nat} (hi : i < 4) : okN (rn l i) = true := by
  have := codeGet_take (l := rl l i) (h.1 i hi)
  have h2 : rn l i ≤ 2147483647 := this.2.1
  simp only [okN, Bool.and_eq_true, decide_eq_true_eq]
  omega

set_option maxHeartbeats 8000000 in
theorem c_rGetNo (f : Bool) (l : List UInt8) (hl : l.length ≤ 1000000) (h : ¬ recOk l) :
    Contract Try.prog 38 [.sl f (bys l)] (.tup [i64 0, .agg [i64 0, i64 0, i64 0], bo false]) [] := by
  refine contract_of_awpV (rs := [.tmp 2, .cell 3 47, .tmp 4]) ttok Try.func38 rfl Try.ntmps38 (by simp) rfl fun E => ?_
  (repeat (first | refine awp_seq ?_ | refine awp_block ?_ | ((first | refine awp_skip ?_ | refine awp_exit ?_ | refine awp_reg ttok ?_ | (refine awp_draw ttok ?dr_calm ?_; (case dr_calm => decide +kernel)) | refine awp_condM ?_); simp (maxSteps := 4000000) only [↓reduceIte, Nat.reduceLT, Nat.reduceEqDiff, reduceCtorEq, Nat.reduceAdd, Nat.reduceMul, Int.reduceLE, Int.reduceLT, Int.reduceToNat, Nat.reduceLeDiff, Nat.reduceSub, Int.reduceEq, Nat.reduceBEq, List.replicate, List.set, if_false, if_true, ne_eq, false_implies, implies_true, evA, tyA]; (repeat (with_reducible refine And.intro ?_ ?_; focus ((repeat' with_reducible apply And.intro) <;> (first | omega | with_reducible trivial | with_reducible assumption)))); (with_reducible first | refine awp_id ?_ | refine id_call ?_ | refine id_and ?_ | refine id_ex ?_ | refine id_all ?_ | refine id_le ?_))))
  refine awp_loop (X := Nat) (fun i => mkS 40 [(0, .sl f (bys (rl l i))), (3, .ptr 1001 0 0), (5, .ptr 2000 0 0), (9, i64 i)] [(1001, { sz := 3, rows := [[i64 0, i64 0, i64 0]], flat := false }), (2000, { sz := 4, rows := [[i64 (if 0 < i then (rn l 0 : Int) else 0), i64 (if 1 < i then (rn l 1 : Int) else 0), i64 (if 2 < i then (rn l 2 : Int) else 0), i64 (if 3 < i then (rn l 3 : Int) else 0)]], flat := false })]) (fun i => i ≤ 4 ∧ ∀ j, j < i → 0 < rk l j) (fun i => 4 - i) 0 ⟨by omega, by simp⟩ (mkS_le rfl ?_ ?_) ?_
  · simp (maxSteps := 4000000) only [↓reduceIte, Nat.reduceLT, Nat.reduceEqDiff, reduceCtorEq, Nat.reduceAdd, Nat.reduceMul, Int.reduceLE, Int.reduceLT, Int.reduceToNat, Nat.reduceLeDiff, Nat.reduceSub, Int.reduceEq, Nat.reduceBEq, List.replicate, List.set, if_false, if_true, ne_eq, false_implies, implies_true, evA, rl]
    try rfl
  · simp (maxSteps := 4000000) only [↓reduceIte, Nat.reduceLT, Nat.reduceEqDiff, reduceCtorEq, Nat.reduceAdd, Nat.reduceMul, Int.reduceLE, Int.reduceLT, Int.reduceToNat, Nat.reduceLeDiff, Nat.reduceSub, Int.reduceEq, Nat.reduceBEq, List.replicate, List.set, if_false, if_true, ne_eq, false_implies, implies_true, evA]
    try rfl
  · rintro i ⟨hi, hpos⟩
    by_cases hi4 : i < 4
    · have hd : decide ((i : Int) < 4) = true := by simp; omega
      have g5 := rl_len l i
      have g3 := codeGet_le (rl l i)
      obtain ⟨i', hi'⟩ : ∃ i', i' = i + 1 := ⟨_, rfl⟩
      have hwi : IntKind.i64.wrap ((i : Int) + 1) = (i' : Int) := by rw [hi']; exact i64_in (by omega) (by omega)
      have hc : Contract Try.prog 48 [.sl f (bys (rl l i))] (.tup [i64 (rn l i), i64 (rk l i)]) [] := c_cget f (rl l i) (by omega)
      have hrk : rk l i ≤ (rl l i).length := g3
      have hdr : (rl l i).drop (rk l i) = rl l i' := by rw [hi']; rfl
      have htk : List.take ((rl l i).length - rk l i) (rl l i') = rl l i' := List.take_of_length_le (by rw [← hdr]; simp)
      (repeat (first | refine awp_seq ?_ | refine awp_block ?_ | ((first | refine awp_skip ?_ | refine awp_exit ?_ | refine awp_reg ttok ?_ | (refine awp_draw ttok ?dr_calm ?_; (case dr_calm => decide +kernel)) | refine awp_condM ?_); simp (maxSteps := 4000000) only [↓reduceIte, Nat.reduceLT, Nat.reduceEqDiff, reduceCtorEq, Nat.reduceAdd, Nat.reduceMul, Int.reduceLE, Int.reduceLT, Int.reduceToNat, Nat.reduceLeDiff, Nat.reduceSub, Int.reduceEq, Nat.reduceBEq, List.replicate, List.set, if_false, if_true, ne_eq, false_implies, implies_true, evA, tyA, hd]; (repeat (with_reducible refine And.intro ?_ ?_; focus ((repeat' with_reducible apply And.intro) <;> (first | omega | with_reducible trivial | with_reducible assumption)))); (with_reducible first | refine awp_id ?_ | refine id_call ?_ | refine id_and ?_ | refine id_ex ?_ | refine id_all ?_ | refine id_le ?_))))
      cases hz : ((rk l i : Int) == 0)
      · have hpos' : ∀ j, j < i' → 0 < rk l j := fun j hj => by
          by_cases e : j = i
          · subst e; rw [beq_eq_false_iff_ne] at hz; omega
          · exact hpos j (by omega)
        have h0123 : i = 0 ∨ i = 1 ∨ i = 2 ∨ i = 3 := by omega
        rcases h0123 with rfl | rfl | rfl | rfl
        all_goals
          refine callVC_scal fnok48 hc rfl ?_
          simp (maxSteps := 4000000) only [↓reduceIte, Nat.reduceLT, Nat.reduceEqDiff, reduceCtorEq, Nat.reduceAdd, Nat.reduceMul, Int.reduceLE, Int.reduceLT, Int.reduceToNat, Nat.reduceLeDiff, Nat.reduceSub, Int.reduceEq, Nat.reduceBEq, List.replicate, List.set, if_false, if_true, ne_eq, false_implies, implies_true, evA, tyA, hz]
          (repeat (with_reducible refine And.intro ?_ ?_; focus ((repeat' with_reducible apply And.intro) <;> (first | omega | with_reducible trivial | with_reducible assumption))))
          (repeat (first | refine awp_seq ?_ | refine awp_block ?_ | ((first | refine awp_skip ?_ | refine awp_exit ?_ | refine awp_reg ttok ?_ | (refine awp_draw ttok ?dr_calm ?_; (case dr_calm => decide +kernel)) | refine awp_condM ?_); simp (maxSteps := 4000000) only [↓reduceIte, Nat.reduceLT, Nat.reduceEqDiff, reduceCtorEq, Nat.reduceAdd, Nat.reduceMul, Int.reduceLE, Int.reduceLT, Int.reduceToNat, Nat.reduceLeDiff, Nat.reduceSub, Int.reduceEq, Nat.reduceBEq, List.replicate, List.set, if_false, if_true, ne_eq, false_implies, implies_true, evA, tyA, hz]; (repeat (with_reducible refine And.intro ?_ ?_; focus ((repeat' with_reducible apply And.intro) <;> (first | omega | with_reducible trivial | with_reducible assumption)))); (with_reducible first | refine awp_id ?_ | refine id_call ?_ | refine id_and ?_ | refine id_ex ?_ | refine id_all ?_ | refine id_le ?_))))
          refine awp_drawG ttok ((0, none) :: (1, none) :: (2, none) :: (3, none) :: (4, none) :: (5, none) :: (6, some [2, 3, 4]) :: (7, none) :: []) (0 :: 1 :: 2 :: 3 :: 4 :: 5 :: 6 :: 7 :: []) (0 :: 1 :: 2 :: 3 :: 4 :: 5 :: 6 :: 7 :: []) (by decide +kernel) fun O hO => ?_; simp only [OpsAre, Nat.reduceAdd, and_true, List.toList_toArray, List.append_eq, List.cons_append, List.nil_append] at hO; simp (maxSteps := 4000000) only [↓reduceIte, Nat.reduceLT, Nat.reduceEqDiff, reduceCtorEq, Nat.reduceAdd, Nat.reduceMul, Int.reduceLE, Int.reduceLT, Int.reduceToNat, Nat.reduceLeDiff, Nat.reduceSub, Int.reduceEq, Nat.reduceBEq, List.replicate, List.set, if_false, if_true, ne_eq, false_implies, implies_true, evA, tyA, hO, hdr, htk]; (repeat (with_reducible refine And.intro ?_ ?_; focus ((repeat' with_reducible apply And.intro) <;> (first | omega | with_reducible trivial | with_reducible assumption))))
          (repeat (first | refine awp_seq ?_ | refine awp_block ?_ | ((first | refine awp_skip ?_ | refine awp_exit ?_ | refine awp_reg ttok ?_ | (refine awp_draw ttok ?dr_calm ?_; (case dr_calm => decide +kernel)) | refine awp_condM ?_); simp (maxSteps := 4000000) only [↓reduceIte, Nat.reduceLT, Nat.reduceEqDiff, reduceCtorEq, Nat.reduceAdd, Nat.reduceMul, Int.reduceLE, Int.reduceLT, Int.reduceToNat, Nat.reduceLeDiff, Nat.reduceSub, Int.reduceEq, Nat.reduceBEq, List.replicate, List.set, if_false, if_true, ne_eq, false_implies, implies_true, evA, tyA, hwi]; (repeat (with_reducible refine And.intro ?_ ?_; focus ((repeat' with_reducible apply And.intro) <;> (first | omega | with_reducible trivial | with_reducible assumption)))); (with_reducible first | refine awp_id ?_ | refine id_call ?_ | refine id_and ?_ | refine id_ex ?_ | refine id_all ?_ | refine id_le ?_))))
          refine ⟨i', ⟨by omega, hpos'⟩, by omega, mkS_le rfl ?_ ?_⟩
          · simp (maxSteps := 4000000) only [↓reduceIte, Nat.reduceLT, Nat.reduceEqDiff, reduceCtorEq, Nat.reduceAdd, Nat.reduceMul, Int.reduceLE, Int.reduceLT, Int.reduceToNat, Nat.reduceLeDiff, Nat.reduceSub, Int.reduceEq, Nat.reduceBEq, List.replicate, List.set, if_false, if_true, ne_eq, false_implies, implies_true, evA]
          · subst hi'
            simp (maxSteps := 4000000) only [↓reduceIte, Nat.reduceLT, Nat.reduceEqDiff, reduceCtorEq, Nat.reduceAdd, Nat.reduceMul, Int.reduceLE, Int.reduceLT, Int.reduceToNat, Nat.reduceLeDiff, Nat.reduceSub, Int.reduceEq, Nat.reduceBEq, List.replicate, List.set, if_false, if_true, ne_eq, false_implies, implies_true, evA]
      · refine callVC_scal fnok48 hc rfl ?_
        simp (maxSteps := 4000000) only [↓reduceIte, Nat.reduceLT, Nat.reduceEqDiff, reduceCtorEq, Nat.reduceAdd, Nat.reduceMul, Int.reduceLE, Int.reduceLT, Int.reduceToNat, Nat.reduceLeDiff, Nat.reduceSub, Int.reduceEq, Nat.reduceBEq, List.replicate, List.set, if_false, if_true, ne_eq, false_implies, implies_true, evA, tyA, hz]
        (repeat (with_reducible refine And.intro ?_ ?_; focus ((repeat' with_reducible apply And.intro) <;> (first | omega | with_reducible trivial | with_reducible assumption))))
        (repeat (first | refine awp_seq ?_ | refine awp_block ?_ | ((first | refine awp_skip ?_ | refine awp_exit ?_ | refine awp_reg ttok ?_ | (refine awp_draw ttok ?dr_calm ?_; (case dr_calm => decide +kernel)) | refine awp_condM ?_); simp (maxSteps := 4000000) only [↓reduceIte, Nat.reduceLT, Nat.reduceEqDiff, reduceCtorEq, Nat.reduceAdd, Nat.reduceMul, Int.reduceLE, Int.reduceLT, Int.reduceToNat, Nat.reduceLeDiff, Nat.reduceSub, Int.reduceEq, Nat.reduceBEq, List.replicate, List.set, if_false, if_true, ne_eq, false_implies, implies_true, evA, tyA, hz]; (repeat (with_reducible refine And.intro ?_ ?_; focus ((repeat' with_reducible apply And.intro) <;> (first | omega | with_reducible trivial | with_reducible assumption)))); (with_reducible first | refine awp_id ?_ | refine id_call ?_ | refine id_and ?_ | refine id_ex ?_ | refine id_all ?_ | refine id_le ?_))))
        exact awp_ret (endsV [] (.inr rfl) (by simp (maxSteps := 4000000) only [↓reduceIte, Nat.reduceLT, Nat.reduceEqDiff, reduceCtorEq, Nat.reduceAdd, Nat.reduceMul, Int.reduceLE, Int.reduceLT, Int.reduceToNat, Nat.reduceLeDiff, Nat.reduceSub, Int.reduceEq, Nat.reduceBEq, List.replicate, List.set, if_false, if_true, ne_eq, false_implies, implies_true, evA, tyA]; rfl) trivial)
    · have hd : decide ((i : Int) < 4) = false := by simp; omega
      obtain rfl : i = 4 := by omega
      have hne : rl l 4 ≠ [] := fun e => h ⟨hpos, e⟩
      have hz : decide (((rl l 4).length : Int) > 0) = true := by
        have := List.length_pos_iff.2 hne
        simp; omega
      (repeat (first | refine awp_seq ?_ | refine awp_block ?_ | ((first | refine awp_skip ?_ | refine awp_exit ?_ | refine awp_reg ttok ?_ | (refine awp_draw ttok ?dr_calm ?_; (case dr_calm => decide +kernel)) | refine awp_condM ?_); simp (maxSteps := 4000000) only [↓reduceIte, Nat.reduceLT, Nat.reduceEqDiff, reduceCtorEq, Nat.reduceAdd, Nat.reduceMul, Int.reduceLE, Int.reduceLT, Int.reduceToNat, Nat.reduceLeDiff, Nat.reduceSub, Int.reduceEq, Nat.reduceBEq, List.replicate, List.set, if_false, if_true, ne_eq, false_implies, implies_true, evA, tyA, hd, hz]; (repeat (with_reducible refine And.intro ?_ ?_; focus ((repeat' with_reducible apply And.intro) <;> (first | omega | with_reducible trivial | with_reducible assumption)))); (with_reducible first | refine awp_id ?_ | refine id_call ?_ | refine id_and ?_ | refine id_ex ?_ | refine id_all ?_ | refine id_le ?_))))
      exact awp_ret (endsV [] (.inr rfl) (by simp (maxSteps := 4000000) only [↓reduceIte, Nat.reduceLT, Nat.reduceEqDiff, reduceCtorEq, Nat.reduceAdd, Nat.reduceMul, Int.reduceLE, Int.reduceLT, Int.reduceToNat, Nat.reduceLeDiff, Nat.reduceSub, Int.reduceEq, Nat.reduceBEq, List.replicate, List.set, if_false, if_true, ne_eq, false_implies, implies_true, evA, tyA]; rfl) trivial)

end Go.Proofs.Ytmfonlkigjpjcaa
