import Derived.Test.YtkpplakjdcpoaaaHn
import Derived.Test.YtkpplakjdcpoaaaRn
import Derived.Test.YtkpplakjdcpoaaaMay
import Derived.Test.YtkpplakjdcpoaaaNfa
set_option linter.unusedSimpArgs false
set_option linter.unusedVariables false
namespace Go.Proofs.Ytkpplakjdcpoaaa
open Go.Ab
def fix5 : List Lab := [(0, 1, 0), (0, 1, 1), (0, 2, 0), (1, 0, 0), (2, 1, 0)]
theorem idxA_no : ∀ (l : List (Int × Int)) (w : Int) (k : Nat), (∀ x ∈ l, x.2 ≠ w) → idxA l w k = -1
  | [], _, _, _ => rfl
  | x :: l, w, k, h => by
    rw [idxA, if_neg (h x (by simp))]
    exact idxA_no l w (k + 1) fun y hy => h y (by simp [hy])
theorem idxA_ge : ∀ (l : List (Int × Int)) (w : Int) (k : Nat), (∃ x ∈ l, x.2 = w) → (k : Int) ≤ idxA l w k
  | [], _, _, h => by simp at h
  | x :: l, w, k, h => by
    rw [idxA]
    by_cases e : x.2 = w
    · rw [if_pos e]; exact Int.le_refl _
    · rw [if_neg e]
      obtain ⟨y, hy, he⟩ := h
      rcases List.mem_cons.1 hy with rfl | hy
      · exact absurd he e
      · have := idxA_ge l w (k + 1) ⟨y, hy, he⟩
        omega
theorem idxA_bd : ∀ (l : List (Int × Int)) (w : Int) (k : Nat), -1 ≤ idxA l w k ∧ idxA l w k < ((k + l.length : Nat) : Int)
  | [], w, k => by simp [idxA]; omega
  | x :: l, w, k => by
    rw [idxA, List.length_cons]
    have := idxA_bd l w (k + 1)
    split <;> omega
theorem actOf_mem2 {part : Int} {x : Lab} {i : Nat} (h : (x.1 == part || x.2.1 == part) = true) : ∃ y, actOf part x i = [y] ∧ y.2 = (i : Int) := by
  unfold actOf
  by_cases h1 : part = x.1
  · rw [if_pos h1]; exact ⟨_, rfl, rfl⟩
  · rw [if_neg h1]
    have h2 : part = x.2.1 := by
      simp only [Bool.or_eq_true, beq_iff_eq] at h
      rcases h with h | h
      · exact absurd h.symm h1
      · exact h.symm
    rw [if_pos h2]; exact ⟨_, rfl, rfl⟩
theorem actOf_no {part : Int} {x : Lab} {i : Nat} (h : (x.1 == part || x.2.1 == part) = false) : actOf part x i = [] := by
  simp only [Bool.or_eq_false_iff, beq_eq_false_iff_ne] at h
  unfold actOf
  rw [if_neg (fun e => h.1 e.symm), if_neg (fun e => h.2 e.symm)]
def hasI (l : List Lab) (part : Int) (j : Nat) : Bool := (l.getD j (0, 0, 0)).1 == part || (l.getD j (0, 0, 0)).2.1 == part
theorem acts_in (l : List Lab) (part : Int) : ∀ n, ∀ x ∈ acts l part n, ∃ j : Nat, j < n ∧ x.2 = (j : Int) ∧ hasI l part j = true
  | 0, x, h => by simp [acts] at h
  | n + 1, x, h => by
    simp only [acts, List.mem_append] at h
    rcases h with h | h
    · obtain ⟨j, h1, h2, h3⟩ := acts_in l part n x h
      exact ⟨j, by omega, h2, h3⟩
    · cases hh : hasI l part n
      · rw [actOf_no hh] at h; cases h
      · obtain ⟨y, hy, he⟩ := actOf_mem2 (i := n) hh
        rw [hy, List.mem_singleton] at h
        subst h
        exact ⟨n, by omega, he, hh⟩
theorem acts_has (l : List Lab) (part : Int) {j : Nat} (hh : hasI l part j = true) : ∀ n, j < n → ∃ x ∈ acts l part n, x.2 = (j : Int)
  | 0, h => by omega
  | n + 1, h => by
    simp only [acts, List.mem_append]
    by_cases e : j = n
    · subst e
      obtain ⟨y, hy, he⟩ := actOf_mem2 (i := j) hh
      refine ⟨y, .inr ?_, he⟩
      show y ∈ actOf part (l.getD j (0, 0, 0)) j
      rw [hy]; simp
    · obtain ⟨x, hx, he⟩ := acts_has l part hh n (by omega)
      exact ⟨x, .inl hx, he⟩
section
variable {k : Nat} {N : List (List Int)} {lb : List Lab} {part : Int}
theorem hasP_nat {a : Nat} (ha : a < lb.length) : hasP lb part (a : Int) = hasI lb part a := by
  unfold hasP hasI
  rw [decide_eq_true (by omega), decide_eq_true (by omega), Bool.true_and, Bool.true_and, Int.toNat_natCast]
theorem hid_idx_no {a : Nat} (ha : a < lb.length) (h : hasP lb part (a : Int) = false) : idxA (acts lb part lb.length) (a : Int) 0 = -1 := by
  refine idxA_no _ _ _ fun x hx e => ?_
  obtain ⟨j, h1, h2, h3⟩ := acts_in lb part _ x hx
  have : j = a := by omega
  subst this
  rw [hasP_nat ha, h3] at h
  cases h
theorem hid_idx_yes {a : Nat} (ha : a < lb.length) (h : hasP lb part (a : Int) = true) : 0 ≤ idxA (acts lb part lb.length) (a : Int) 0 := by
  rw [hasP_nat ha] at h
  exact idxA_ge _ _ 0 (acts_has lb part h _ ha)
theorem wordOf_nn (ws : List Int) : ∀ x ∈ wordOf lb part ws, 0 ≤ x := fun x hx => by
  obtain ⟨w, hw, h⟩ := List.mem_flatMap.1 hx
  by_cases hp : hasP lb part w = true
  · rw [if_pos hp, List.mem_singleton] at h
    have h2 := hp
    simp only [hasP, Bool.and_eq_true, decide_eq_true_eq] at h2
    obtain ⟨a, rfl⟩ := Int.eq_ofNat_of_zero_le h2.1.1
    rw [h]
    exact hid_idx_yes (by omega) hp
  · rw [if_neg hp] at h; cases h
theorem hidM_len (A : List (Int × Int)) (N : List (List Int)) : (hidM A N).length = N.length := by simp [hidM, movD]
theorem hidM_get (A : List (Int × Int)) {s : Nat} (hs : s < N.length) : (hidM A N).getD s [] = (rowM (N.getD s [])).map (hm A) := by
  have hm' : s < (movD N).length := by rw [movD_len]; exact hs
  rw [← movD_get hs]
  simp [hidM, List.getD, List.getElem?_eq_getElem hm']
theorem hidM_ok {L : Nat} (h : NOk L k N) (A : List (Int × Int)) : MOk A.length k (hidM A N) := by
  refine ⟨by rw [hidM_len, h.len], fun r hr x hx => ?_⟩
  obtain ⟨q, hq, rfl⟩ := List.mem_map.1 hr
  obtain ⟨y, hy, rfl⟩ := List.mem_map.1 hx
  have := (movD_ok h).row q hq y hy
  have hb := idxA_bd A y.1 0
  unfold hm
  simp only
  omega
theorem hidM_rl {L : Nat} (h : NOk L k N) (A : List (Int × Int)) (s : Nat) : ((hidM A N).getD s []).length ≤ L := by
  rcases Nat.lt_or_ge s N.length with q | q
  · rw [hidM_get A q, List.length_map, ← movD_get q]
    exact movD_rl h s
  · rw [List.getD_eq_getElem?_getD, List.getElem?_eq_none (by rw [hidM_len]; exact q)]; simp
theorem hidM_mem {L : Nat} (h : NOk L k N) (A : List (Int × Int)) {s : Nat} {b t : Int} : (b, t) ∈ (hidM A N).getD s [] ↔ s < k ∧ ∃ a : Nat, a < L ∧ b = idxA A (a : Int) 0 ∧ t = toD N s a ∧ 0 ≤ t := by
  have hl := h.len
  rcases Nat.lt_or_ge s N.length with q | q
  · rw [hidM_get A q]
    have hr := (h.get (show s < k by omega)).1
    constructor
    · intro hm'
      obtain ⟨⟨u, v⟩, hy, he⟩ := List.mem_map.1 hm'
      obtain ⟨a, h1, h2, h3, h4⟩ := rowP_mem.1 hy
      simp only [hm, Prod.mk.injEq] at he
      refine ⟨by omega, a, by omega, by rw [← he.1, h2], ?_, by rw [← he.2]; exact h4⟩
      rw [toD_good h (by omega) (by omega), ← he.2, h3]
    · rintro ⟨h0, a, h1, h2, h3, h4⟩
      refine List.mem_map.2 ⟨((a : Int), t), rowP_mem.2 ⟨a, by omega, rfl, ?_, h4⟩, by rw [hm, h2]⟩
      rw [h3, toD_good h h0 h1]
  · rw [List.getD_eq_getElem?_getD, List.getElem?_eq_none (by rw [hidM_len]; exact q)]
    simp only [Option.getD_none, List.not_mem_nil, false_iff, not_and]
    omega
theorem hid_takes (h : NOk lb.length k N) (F : List Bool) (hF : F.length = k) : ∀ (w : List Int) (X : List Int) (s : Int), s ∈ cloL (hidM (acts lb part lb.length) N) X → endsD F N s w = true → finL F (takS (hidM (acts lb part lb.length) N) (cloL (hidM (acts lb part lb.length) N) X) (wordOf lb part w)) = true
  | [], X, s, hs, he => by
    have hok := hidM_ok h (acts lb part lb.length)
    obtain ⟨y, rfl, hy⟩ := (cloL_mem hok).1 hs
    have hyl := hy.lt
    rw [hidM_len, h.len] at hyl
    unfold finL
    refine List.any_eq_true.2 ⟨_, hs, ?_⟩
    have : F.getD y false = true := by simpa [endsD, runD] using he
    rw [decide_eq_true (by omega), decide_eq_true (by omega), Int.toNat_natCast, this]; rfl
  | a :: w, X, s, hs, he => by
    have hok := hidM_ok h (acts lb part lb.length)
    obtain ⟨y, rfl, hy⟩ := (cloL_mem hok).1 hs
    have hyl := hy.lt
    rw [hidM_len, h.len] at hyl
    rw [ends_cons] at he
    by_cases ha : 0 ≤ a ∧ a < (lb.length : Int)
    · obtain ⟨b, rfl⟩ := Int.eq_ofNat_of_zero_le ha.1
      have hb : b < lb.length := by omega
      have ht0 : 0 ≤ toD N y b := by
        rcases Int.lt_or_le (toD N y b) 0 with q | q
        · rw [ends_neg q] at he; cases he
        · exact q
      have hmv := (hidM_mem h (acts lb part lb.length)).2 ⟨hyl, b, hb, rfl, rfl, ht0⟩
      have htk : toD N y b < (k : Int) := by
        have := hok.get y _ hmv
        exact this.2.2.2
      obtain ⟨t, ht⟩ := Int.eq_ofNat_of_zero_le ht0
      have htl : t < (hidM (acts lb part lb.length) N).length := by rw [hidM_len, h.len]; omega
      cases hp : hasP lb part (b : Int)
      · have e : wordOf lb part ((b : Int) :: w) = wordOf lb part w := by simp [wordOf, hp]
        rw [e]
        rw [hid_idx_no hb hp, ht] at hmv
        refine hid_takes h F hF w X _ ?_ he
        rw [ht]
        exact (cloL_mem hok).2 ⟨t, rfl, .step hy hmv htl⟩
      · have e : wordOf lb part ((b : Int) :: w) = idxA (acts lb part lb.length) (b : Int) 0 :: wordOf lb part w := by simp [wordOf, hp]
        rw [e, takS]
        refine hid_takes h F hF w _ _ ?_ he
        have hst : toD N y b ∈ stepL (hidM (acts lb part lb.length) N) (cloL (hidM (acts lb part lb.length) N) X) (idxA (acts lb part lb.length) (b : Int) 0) := (stepL_mem hok).2 ⟨y, hs, hmv⟩
        rw [ht] at hst ⊢
        exact (cloL_mem hok).2 ⟨t, rfl, .base hst htl⟩
    · have : toD N y a = -1 := toD_far h hyl ha
      rw [this, ends_neg (by decide)] at he
      cases he
theorem hid_dead {L : Nat} (h : NOk L k N) (A : List (Int × Int)) (F : List Bool) (hF : F.length = k) : ∀ (w : List Int) (X : List Int), (∀ x ∈ X, ∀ u, endsD F N x u = false) → finL F (takS (hidM A N) (cloL (hidM A N) X) w) = false := by
  have hok := hidM_ok h A
  have hstep : ∀ {s : Nat} {b t : Int}, (b, t) ∈ (hidM A N).getD s [] → (∀ u, endsD F N s u = false) → ∀ u, endsD F N t u = false := fun hm' hd u => by
    obtain ⟨h0, a, h1, h2, h3, h4⟩ := (hidM_mem h A).1 hm'
    rw [h3, ← ends_cons]
    exact hd _
  have hclo : ∀ X : List Int, (∀ x ∈ X, ∀ u, endsD F N x u = false) → ∀ x ∈ cloL (hidM A N) X, ∀ u, endsD F N x u = false := fun X hX x hx => by
    obtain ⟨y, rfl, hy⟩ := (cloL_mem hok).1 hx
    clear hx
    induction hy with
    | base hb _ => exact hX _ hb
    | step _ hm' _ ih => exact hstep hm' ih
  intro w
  induction w with
  | nil =>
    intro X hX
    rw [takS]
    cases hf : finL F (cloL (hidM A N) X)
    · rfl
    · obtain ⟨x, hx, hq⟩ := List.any_eq_true.1 hf
      have := hclo X hX x hx []
      simp only [Bool.and_eq_true, decide_eq_true_eq] at hq
      have e : endsD F N x [] = (decide (0 ≤ x) && F.getD x.toNat false) := rfl
      rw [e, hq.2, decide_eq_true hq.1.1] at this
      cases this
  | cons a w ih =>
    intro X hX
    rw [takS]
    refine ih _ fun x hx => ?_
    obtain ⟨i, h1, h2⟩ := (stepL_mem hok).1 hx
    exact hstep h2 (hclo X hX _ h1)
end
theorem ends_consX {F : List Bool} {N : List (List Int)} (s a : Int) (w : List Int) : endsD F N s (a :: w) = endsD F N (toD N s a) w := by
  unfold endsD
  rw [runD]
  split
  · rename_i h
    have : toD N s a = -1 := by unfold toD; rw [if_pos (.inl h)]
    rw [this, runD_neg (by decide)]
    rw [decide_eq_false (by omega), decide_eq_false (by omega), Bool.false_and, Bool.false_and]
  · rfl
theorem ends_negX {F : List Bool} {N : List (List Int)} {s : Int} (h : s < 0) (w : List Int) : endsD F N s w = false := by
  unfold endsD
  rw [runD_neg h, decide_eq_false (by omega), Bool.false_and]
theorem toD_atX {L k : Nat} {N : List (List Int)} (h : NOk L k N) {s a : Nat} (hs : s < k) (ha : a < L) : toD N s a = (N.getD s []).getD a 0 := by
  have hl := h.len
  have := (h.get hs).1
  unfold toD
  rw [if_neg (by rw [Int.toNat_natCast]; omega), Int.toNat_natCast, Int.toNat_natCast]
theorem toD_farX {L k : Nat} {N : List (List Int)} (h : NOk L k N) {s : Nat} (hs : s < k) {a : Int} (ha : (L : Int) ≤ a) : toD N s a = -1 := by
  have hl := h.len
  have := (h.get hs).1
  unfold toD
  rw [if_pos (by rw [Int.toNat_natCast]; omega)]
section
variable {L k : Nat} {M : Mv} {z : List Int} {Q : List (List Int)}
theorem DA.lang (h : DA L k M z Q) (F : List Bool) : ∀ (w : List Int) (i : Nat), i < Q.length → (∀ x ∈ w, 0 ≤ x) → endsD (dFin F Q) (dNx L M Q) i w = finL F (takS M (Q.getD i []) w)
  | [], i, hi, _ => by
    have e : endsD (dFin F Q) (dNx L M Q) i [] = (decide (0 ≤ (i : Int)) && (dFin F Q).getD (i : Int).toNat false) := rfl
    rw [e, decide_eq_true (by omega), Bool.true_and, Int.toNat_natCast]
    unfold dFin
    rw [getD_mapD _ _ [] hi]
    rfl
  | a :: w, i, hi, hw => by
    have h0 := hw a (by simp)
    have hw' : ∀ x ∈ w, 0 ≤ x := fun x hx => hw x (by simp [hx])
    rw [ends_consX, takS]
    by_cases ha : a < (L : Int)
    · obtain ⟨b, rfl⟩ := Int.eq_ofNat_of_zero_le h0
      have hb : b < L := by omega
      rw [toD_atX h.ok hi hb, h.cell hi hb]
      have hhas := h.has hi hb
      unfold dNum
      split
      · rename_i he
        have : stepL M (Q.getD i []) (b : Int) = [] := by simpa using he
        rw [ends_negX (by decide), this, cloL_nil M h.hM, takS_nil h.hM]
        rfl
      · rename_i he
        have hm := hhas (by simpa using he)
        have hj := List.idxOf_lt_length_of_mem hm
        rw [h.lang F w _ hj hw']
        have e : Q.getD (Q.idxOf (dTo M (Q.getD i []) (b : Int))) [] = dTo M (Q.getD i []) (b : Int) := by
          have hg := List.getElem_idxOf hj
          rw [List.getD_eq_getElem?_getD, List.getElem?_eq_getElem hj, Option.getD_some, hg]
        rw [e]
        rfl
    · rw [toD_farX h.ok hi (by omega), ends_negX (by decide), stepL_far h.hM _ (by omega), cloL_nil M h.hM, takS_nil h.hM]
      rfl
end
set_option maxHeartbeats 4000000 in
theorem c_Labels (n : Nat) (hn : n ≤ 7) : Contract Try.prog 15 [i64 n] (.sl false (tri (fix5.take (min n 5)))) [] := by
  refine contract_of_awp (rs := [2]) Try.func15 rfl Try.ntmps15 (by simp) rfl fun E => ?_
  have hmax : (if (0 : Int) > (n : Int) then (0 : Int) else (n : Int)) = (n : Int) := by split <;> omega
  have hmin : (if (5 : Int) < (n : Int) then (5 : Int) else (n : Int)) = ((min n 5 : Nat) : Int) := by omega
  have hr : [[D.v (.int .i64 0), D.v (.int .i64 1), D.v (.int .i64 0)], [D.v (.int .i64 0), D.v (.int .i64 1), D.v (.int .i64 1)], [D.v (.int .i64 0), D.v (.int .i64 2), D.v (.int .i64 0)], [D.v (.int .i64 1), D.v (.int .i64 0), D.v (.int .i64 0)], [D.v (.int .i64 2), D.v (.int .i64 1), D.v (.int .i64 0)]] = tri fix5 := rfl
  have hl5 : (tri fix5).length = 5 := rfl
  have hm5 : min n 5 ≤ 5 := Nat.min_le_right _ _
  generalize min n 5 = m at *
  (repeat (first | refine awp_seq ?_ | refine awp_block ?_ | ((first | refine awp_skip ?_ | refine awp_exit ?_ | refine awp_reg ttok ?_ | (refine awp_draw ttok ?dr_calm ?_; (case dr_calm => decide +kernel)) | refine awp_condM ?_); simp (maxSteps := 4000000) only [↓reduceIte, Nat.reduceLT, Nat.reduceEqDiff, reduceCtorEq, Nat.reduceAdd, Nat.reduceMul, Int.reduceLE, Int.reduceLT, Int.reduceToNat, Nat.reduceLeDiff, Nat.reduceSub, Int.reduceEq, Nat.reduceBEq, evB, tyA, hmax, hmin, hr]; (repeat (with_reducible refine And.intro ?_ ?_; exact sdX)); (with_reducible first | refine awp_id ?_ | refine id_call ?_ | refine id_and ?_ | refine id_ex ?_ | refine id_all ?_ | refine id_nat ?_ | refine id_le ?_))))
  refine awp_pure 2 (d := .own 2005 0 m) (d' := .sl false (tri (fix5.take m))) (ids := [2005]) (p := m ≤ (tri fix5).length) evX (by simp (maxSteps := 4000000) only [↓reduceIte, Nat.reduceLT, Nat.reduceEqDiff, reduceCtorEq, Nat.reduceAdd, Nat.reduceMul, Int.reduceLE, Int.reduceLT, Int.reduceToNat, Nat.reduceLeDiff, Nat.reduceSub, Int.reduceEq, Nat.reduceBEq, evB, tri_take]) (by omega) ?_
  exact awp_ret (ends_plain (.inr rfl) rfl (by simp (maxSteps := 4000000) only [↓reduceIte, Nat.reduceLT, Nat.reduceEqDiff, reduceCtorEq, Nat.reduceAdd, Nat.reduceMul, Int.reduceLE, Int.reduceLT, Int.reduceToNat, Nat.reduceLeDiff, Nat.reduceSub, Int.reduceEq, Nat.reduceBEq, evB, St.pureSlot]))
section
variable {k : Nat} {N : List (List Int)} {lb : List Lab}
theorem c_HOfNo (h : NOk lb.length k N) (hL : lb.length ≤ 1000) (hk : 1 ≤ k ∧ k ≤ 10) (st : Nat) (hst : st < k) (F : List Bool) (hF : F.length = k) (f : Bool) (part : Int) (he : leastR (acts lb part lb.length).length (hidM (acts lb part lb.length) N) F st = .tup [noDfa, i64 13]) :
    Contract Try.prog 16 [dfaD lb.length st F N, .sl f (tri lb), i64 part] (.tup [noDfa, .sl true [], i64 13]) [] := by
  refine contract_of_awpV ttok (rs := [.cell 6 28, .tmp 7, .tmp 8]) Try.func16 rfl Try.ntmps16 (by simp) rfl fun E => ?_
  have hM := c_May h st hst F hF (by omega) (by omega)
  have hN := c_HNfa h hL (by omega) st F hF f lb part hL
  have hal := acts_len lb part lb.length
  have hLe := c_Least (hidM_ok h (acts lb part lb.length)) (fun s => Nat.le_trans (hidM_rl h _ s) hL) (by omega) hk st hst F hF
  rw [he] at hLe
  have c0 : (((lb.length : Int)) != (lb.length : Int)) = false := by simp
  have c1 : ((13 : Int) != 0) = true := rfl
  (repeat (first | refine awp_seq ?_ | refine awp_block ?_ | ((first | refine awp_skip ?_ | refine awp_exit ?_ | refine awp_reg ttok ?_ | (refine awp_draw ttok ?dr_calm ?_; (case dr_calm => decide +kernel)) | refine awp_condM ?_); simp (maxSteps := 4000000) only [↓reduceIte, Nat.reduceLT, Nat.reduceEqDiff, reduceCtorEq, Nat.reduceAdd, Nat.reduceMul, Int.reduceLE, Int.reduceLT, Int.reduceToNat, Nat.reduceLeDiff, Nat.reduceSub, Int.reduceEq, Nat.reduceBEq, evB, tyA, dfaD, c0]; (repeat (with_reducible refine And.intro ?_ ?_; exact sdX)); (with_reducible first | refine awp_id ?_ | refine id_call ?_ | refine id_and ?_ | refine id_ex ?_ | refine id_all ?_ | refine id_nat ?_ | refine id_le ?_))))
  refine callVC_scal fnok21 hM rfl ?_
  simp (maxSteps := 4000000) only [↓reduceIte, Nat.reduceLT, Nat.reduceEqDiff, reduceCtorEq, Nat.reduceAdd, Nat.reduceMul, Int.reduceLE, Int.reduceLT, Int.reduceToNat, Nat.reduceLeDiff, Nat.reduceSub, Int.reduceEq, Nat.reduceBEq, evB, tyA, dfaD, c0, tri_len]
  (repeat (with_reducible refine And.intro ?_ ?_; exact sdX))
  (repeat (first | refine awp_seq ?_ | refine awp_block ?_ | ((first | refine awp_skip ?_ | refine awp_exit ?_ | refine awp_reg ttok ?_ | (refine awp_draw ttok ?dr_calm ?_; (case dr_calm => decide +kernel)) | refine awp_condM ?_); simp (maxSteps := 4000000) only [↓reduceIte, Nat.reduceLT, Nat.reduceEqDiff, reduceCtorEq, Nat.reduceAdd, Nat.reduceMul, Int.reduceLE, Int.reduceLT, Int.reduceToNat, Nat.reduceLeDiff, Nat.reduceSub, Int.reduceEq, Nat.reduceBEq, evB, tyA, c0, tri_len]; (repeat (with_reducible refine And.intro ?_ ?_; exact sdX)); (with_reducible first | refine awp_id ?_ | refine id_call ?_ | refine id_and ?_ | refine id_ex ?_ | refine id_all ?_ | refine id_nat ?_ | refine id_le ?_))))
  refine callVC_mk fnok23 hN rfl ?_
  simp (maxSteps := 4000000) only [↓reduceIte, Nat.reduceLT, Nat.reduceEqDiff, reduceCtorEq, Nat.reduceAdd, Nat.reduceMul, Int.reduceLE, Int.reduceLT, Int.reduceToNat, Nat.reduceLeDiff, Nat.reduceSub, Int.reduceEq, Nat.reduceBEq, evB, tyA, nfaD]
  (repeat (with_reducible refine And.intro ?_ ?_; exact sdX))
  refine callVC_mk fnok22 hLe rfl ?_
  unfold noDfa
  simp (maxSteps := 4000000) only [↓reduceIte, Nat.reduceLT, Nat.reduceEqDiff, reduceCtorEq, Nat.reduceAdd, Nat.reduceMul, Int.reduceLE, Int.reduceLT, Int.reduceToNat, Nat.reduceLeDiff, Nat.reduceSub, Int.reduceEq, Nat.reduceBEq, evB, tyA, c1]
  (repeat (with_reducible refine And.intro ?_ ?_; exact sdX))
  (repeat (first | refine awp_seq ?_ | refine awp_block ?_ | ((first | refine awp_skip ?_ | refine awp_exit ?_ | refine awp_reg ttok ?_ | (refine awp_draw ttok ?dr_calm ?_; (case dr_calm => decide +kernel)) | refine awp_condM ?_); simp (maxSteps := 4000000) only [↓reduceIte, Nat.reduceLT, Nat.reduceEqDiff, reduceCtorEq, Nat.reduceAdd, Nat.reduceMul, Int.reduceLE, Int.reduceLT, Int.reduceToNat, Nat.reduceLeDiff, Nat.reduceSub, Int.reduceEq, Nat.reduceBEq, evB, tyA, c1]; (repeat (with_reducible refine And.intro ?_ ?_; exact sdX)); (with_reducible first | refine awp_id ?_ | refine id_call ?_ | refine id_and ?_ | refine id_ex ?_ | refine id_all ?_ | refine id_nat ?_ | refine id_le ?_))))
  exact awp_ret (endsV [] (.inr rfl) (by simp (maxSteps := 4000000) only [↓reduceIte, Nat.reduceLT, Nat.reduceEqDiff, reduceCtorEq, Nat.reduceAdd, Nat.reduceMul, Int.reduceLE, Int.reduceLT, Int.reduceToNat, Nat.reduceLeDiff, Nat.reduceSub, Int.reduceEq, Nat.reduceBEq, evB, tyA]; rfl) trivial evX)
theorem c_HOfYes (h : NOk lb.length k N) (hL : lb.length ≤ 1000) (hk : 1 ≤ k ∧ k ≤ 10) (st : Nat) (hst : st < k) (F : List Bool) (hF : F.length = k) (f : Bool) (part : Int) {H : List Bool} {Y : List (List Int)} (he : leastR (acts lb part lb.length).length (hidM (acts lb part lb.length) N) F st = .tup [dfaD (acts lb part lb.length).length 0 H Y, i64 0]) :
    Contract Try.prog 16 [dfaD lb.length st F N, .sl f (tri lb), i64 part] (.tup [dfaD (acts lb part lb.length).length 0 H Y, .sl false (duo (acts lb part lb.length)), i64 0]) [] := by
  refine contract_of_awpV ttok (rs := [.cell 6 28, .tmp 7, .tmp 8]) Try.func16 rfl Try.ntmps16 (by simp) rfl fun E => ?_
  have hM := c_May h st hst F hF (by omega) (by omega)
  have hN := c_HNfa h hL (by omega) st F hF f lb part hL
  have hal := acts_len lb part lb.length
  have hLe := c_Least (hidM_ok h (acts lb part lb.length)) (fun s => Nat.le_trans (hidM_rl h _ s) hL) (by omega) hk st hst F hF
  have hAc := c_Acts f lb part (by omega)
  rw [he] at hLe
  clear he
  have c0 : (((lb.length : Int)) != (lb.length : Int)) = false := by simp
  have c1 : ((0 : Int) != 0) = false := rfl
  have hat : List.take (acts lb part lb.length).length (acts lb part lb.length) = acts lb part lb.length := List.take_length
  generalize acts lb part lb.length = A at *
  (repeat (first | refine awp_seq ?_ | refine awp_block ?_ | ((first | refine awp_skip ?_ | refine awp_exit ?_ | refine awp_reg ttok ?_ | (refine awp_draw ttok ?dr_calm ?_; (case dr_calm => decide +kernel)) | refine awp_condM ?_); simp (maxSteps := 4000000) only [↓reduceIte, Nat.reduceLT, Nat.reduceEqDiff, reduceCtorEq, Nat.reduceAdd, Nat.reduceMul, Int.reduceLE, Int.reduceLT, Int.reduceToNat, Nat.reduceLeDiff, Nat.reduceSub, Int.reduceEq, Nat.reduceBEq, evB, tyA, dfaD, c0]; (repeat (with_reducible refine And.intro ?_ ?_; exact sdX)); (with_reducible first | refine awp_id ?_ | refine id_call ?_ | refine id_and ?_ | refine id_ex ?_ | refine id_all ?_ | refine id_nat ?_ | refine id_le ?_))))
  refine callVC_scal fnok21 hM rfl ?_
  simp (maxSteps := 4000000) only [↓reduceIte, Nat.reduceLT, Nat.reduceEqDiff, reduceCtorEq, Nat.reduceAdd, Nat.reduceMul, Int.reduceLE, Int.reduceLT, Int.reduceToNat, Nat.reduceLeDiff, Nat.reduceSub, Int.reduceEq, Nat.reduceBEq, evB, tyA, dfaD, c0, tri_len]
  (repeat (with_reducible refine And.intro ?_ ?_; exact sdX))
  (repeat (first | refine awp_seq ?_ | refine awp_block ?_ | ((first | refine awp_skip ?_ | refine awp_exit ?_ | refine awp_reg ttok ?_ | (refine awp_draw ttok ?dr_calm ?_; (case dr_calm => decide +kernel)) | refine awp_condM ?_); simp (maxSteps := 4000000) only [↓reduceIte, Nat.reduceLT, Nat.reduceEqDiff, reduceCtorEq, Nat.reduceAdd, Nat.reduceMul, Int.reduceLE, Int.reduceLT, Int.reduceToNat, Nat.reduceLeDiff, Nat.reduceSub, Int.reduceEq, Nat.reduceBEq, evB, tyA, c0, tri_len]; (repeat (with_reducible refine And.intro ?_ ?_; exact sdX)); (with_reducible first | refine awp_id ?_ | refine id_call ?_ | refine id_and ?_ | refine id_ex ?_ | refine id_all ?_ | refine id_nat ?_ | refine id_le ?_))))
  refine callVC_mk fnok23 hN rfl ?_
  simp (maxSteps := 4000000) only [↓reduceIte, Nat.reduceLT, Nat.reduceEqDiff, reduceCtorEq, Nat.reduceAdd, Nat.reduceMul, Int.reduceLE, Int.reduceLT, Int.reduceToNat, Nat.reduceLeDiff, Nat.reduceSub, Int.reduceEq, Nat.reduceBEq, evB, tyA, nfaD]
  (repeat (with_reducible refine And.intro ?_ ?_; exact sdX))
  refine callVC_mk fnok22 hLe rfl ?_
  simp (maxSteps := 4000000) only [↓reduceIte, Nat.reduceLT, Nat.reduceEqDiff, reduceCtorEq, Nat.reduceAdd, Nat.reduceMul, Int.reduceLE, Int.reduceLT, Int.reduceToNat, Nat.reduceLeDiff, Nat.reduceSub, Int.reduceEq, Nat.reduceBEq, evB, tyA, c1, dfaD]
  (repeat (with_reducible refine And.intro ?_ ?_; exact sdX))
  (repeat (first | refine awp_seq ?_ | refine awp_block ?_ | ((first | refine awp_skip ?_ | refine awp_exit ?_ | refine awp_reg ttok ?_ | (refine awp_draw ttok ?dr_calm ?_; (case dr_calm => decide +kernel)) | refine awp_condM ?_); simp (maxSteps := 4000000) only [↓reduceIte, Nat.reduceLT, Nat.reduceEqDiff, reduceCtorEq, Nat.reduceAdd, Nat.reduceMul, Int.reduceLE, Int.reduceLT, Int.reduceToNat, Nat.reduceLeDiff, Nat.reduceSub, Int.reduceEq, Nat.reduceBEq, evB, tyA, c1]; (repeat (with_reducible refine And.intro ?_ ?_; exact sdX)); (with_reducible first | refine awp_id ?_ | refine id_call ?_ | refine id_and ?_ | refine id_ex ?_ | refine id_all ?_ | refine id_nat ?_ | refine id_le ?_))))
  refine awp_drawG ttok ((0, none) :: (1, none) :: (2, none) :: (3, some [0]) :: (4, some []) :: (5, none) :: (6, none) :: []) (0 :: 1 :: 2 :: 3 :: 4 :: 5 :: 6 :: []) (0 :: 1 :: 2 :: 3 :: 4 :: 5 :: 6 :: []) (by decide +kernel) fun O hO => ?_; simp only [OpsAre, Nat.reduceAdd, and_true, List.toList_toArray, List.append_eq, List.cons_append, List.nil_append] at hO; simp (maxSteps := 4000000) only [↓reduceIte, Nat.reduceLT, Nat.reduceEqDiff, reduceCtorEq, Nat.reduceAdd, Nat.reduceMul, Int.reduceLE, Int.reduceLT, Int.reduceToNat, Nat.reduceLeDiff, Nat.reduceSub, Int.reduceEq, Nat.reduceBEq, evB, tyA, hO, ]; (repeat (with_reducible refine And.intro ?_ ?_; exact sdX))
  refine callVC_mk fnok24 hAc rfl ?_
  simp (maxSteps := 4000000) only [↓reduceIte, Nat.reduceLT, Nat.reduceEqDiff, reduceCtorEq, Nat.reduceAdd, Nat.reduceMul, Int.reduceLE, Int.reduceLT, Int.reduceToNat, Nat.reduceLeDiff, Nat.reduceSub, Int.reduceEq, Nat.reduceBEq, evB, tyA, hO]
  (repeat (with_reducible refine And.intro ?_ ?_; exact sdX))
  (repeat (first | refine awp_seq ?_ | refine awp_block ?_ | ((first | refine awp_skip ?_ | refine awp_exit ?_ | refine awp_reg ttok ?_ | (refine awp_draw ttok ?dr_calm ?_; (case dr_calm => decide +kernel)) | refine awp_condM ?_); simp (maxSteps := 4000000) only [↓reduceIte, Nat.reduceLT, Nat.reduceEqDiff, reduceCtorEq, Nat.reduceAdd, Nat.reduceMul, Int.reduceLE, Int.reduceLT, Int.reduceToNat, Nat.reduceLeDiff, Nat.reduceSub, Int.reduceEq, Nat.reduceBEq, evB, tyA]; (repeat (with_reducible refine And.intro ?_ ?_; exact sdX)); (with_reducible first | refine awp_id ?_ | refine id_call ?_ | refine id_and ?_ | refine id_ex ?_ | refine id_all ?_ | refine id_nat ?_ | refine id_le ?_))))
  refine awp_pure 7 (d := .own 107003 0 A.length) (d' := .sl false (duo A)) (ids := [107003]) (p := A.length ≤ (duo A).length) evX (by simp (maxSteps := 4000000) only [↓reduceIte, Nat.reduceLT, Nat.reduceEqDiff, reduceCtorEq, Nat.reduceAdd, Nat.reduceMul, Int.reduceLE, Int.reduceLT, Int.reduceToNat, Nat.reduceLeDiff, Nat.reduceSub, Int.reduceEq, Nat.reduceBEq, evB, duo_take, hat]) (by rw [duo_len]; exact Nat.le_refl _) ?_
  exact awp_ret (endsV [] (.inr rfl) (by simp (maxSteps := 4000000) only [↓reduceIte, Nat.reduceLT, Nat.reduceEqDiff, reduceCtorEq, Nat.reduceAdd, Nat.reduceMul, Int.reduceLE, Int.reduceLT, Int.reduceToNat, Nat.reduceLeDiff, Nat.reduceSub, Int.reduceEq, Nat.reduceBEq, evB, tyA]; rfl) trivial evX)
theorem ends_negw {F : List Bool} : ∀ (w : List Int) (s : Int) {x : Int}, x ∈ w → x < 0 → endsD F N s w = false
  | a :: w, s, x, hx, h0 => by
    rw [ends_cons]
    rcases List.mem_cons.1 hx with rfl | hx
    · rw [toD_bad1 N s x (.inr (.inr h0)), ends_neg (by decide)]
    · exact ends_negw w _ hx h0
theorem hide_says (h : NOk lb.length k N) (hL : lb.length ≤ 1000) (hk : 1 ≤ k ∧ k ≤ 10) (st : Nat) (hst : st < k) (F : List Bool) (hF : F.length = k) (part : Int) :
    ((liveL F N).getD st false = true ∧ ∃ (j : Nat) (H : List Bool) (Y : List (List Int)), 1 ≤ j ∧ j ≤ 1024 ∧ NOk (acts lb part lb.length).length j Y ∧ H.length = j ∧
      (∀ f, Contract Try.prog 16 [dfaD lb.length st F N, .sl f (tri lb), i64 part] (.tup [dfaD (acts lb part lb.length).length 0 H Y, .sl false (duo (acts lb part lb.length)), i64 0]) []) ∧
      (∀ w, (∀ x ∈ w, 0 ≤ x) → endsD H Y ((0 : Nat) : Int) w = takB (hidM (acts lb part lb.length) N) F st w) ∧
      (∀ w, endsD F N st w = true → endsD H Y ((0 : Nat) : Int) (wordOf lb part w) = true) ∧
      leastR (acts lb part lb.length).length (hidM (acts lb part lb.length) N) F st = .tup [dfaD (acts lb part lb.length).length 0 H Y, i64 0]) ∨
    ((liveL F N).getD st false = false ∧ ∀ f, Contract Try.prog 16 [dfaD lb.length st F N, .sl f (tri lb), i64 part] (.tup [noDfa, .sl true [], i64 13]) []) := by
  have hok := hidM_ok h (acts lb part lb.length)
  have hA := DA.mk (L := (acts lb part lb.length).length) (z := cloL (hidM (acts lb part lb.length) N) [(st : Int)]) (Q := dAll (acts lb part lb.length).length (hidM (acts lb part lb.length) N) (cloL (hidM (acts lb part lb.length) N) [(st : Int)])) hok ⟨_, rfl⟩ rfl
  have h2k : 2 ^ k ≤ 1024 := Nat.pow_le_pow_right (show 0 < 2 by decide) hk.2
  have hlQ := hA.lenQ
  have hlang := fun w (hw : ∀ x ∈ w, 0 ≤ x) => hA.lang F w 0 hA.q0.1 hw
  rw [hA.q0.2] at hlang
  have hs := ofR_says hA.ok hA.q0.1 (dFin F (dAll (acts lb part lb.length).length (hidM (acts lb part lb.length) N) (cloL (hidM (acts lb part lb.length) N) [(st : Int)]))) (by simp [dFin]) (by omega)
  have hin : (st : Int) ∈ cloL (hidM (acts lb part lb.length) N) [(st : Int)] := (cloL_mem hok).2 ⟨st, rfl, .base (by simp) (by rw [hidM_len, h.len]; exact hst)⟩
  rcases hs with ⟨h1, j, H, Y, j1, j2, hY, hH, he, hw⟩ | ⟨h1, he, hw⟩
  · left
    have hlive : (liveL F N).getD st false = true := by
      cases hq : (liveL F N).getD st false
      · obtain ⟨w, hw2⟩ := (live_word hA.ok (by simp [dFin]) hA.q0.1).1 h1
        have hd := dead_word h hF hst hq
        have hnn : ∀ x ∈ w, 0 ≤ x := fun x hx => by
          rcases Int.lt_or_le x 0 with q | q
          · rw [ends_negw w _ hx q] at hw2; cases hw2
          · exact q
        rw [hlang w hnn, hid_dead h _ F hF w _ (by simpa using hd)] at hw2
        cases hw2
      · rfl
    refine ⟨hlive, j, H, Y, j1, by omega, hY, hH, fun f => c_HOfYes h hL hk st hst F hF f part he, fun w hnn => ?_, fun w hw2 => ?_, he⟩
    · rw [hw, hlang w hnn]; rfl
    · rw [hw, hlang _ (wordOf_nn w)]
      exact hid_takes h F hF w _ _ hin hw2
  · right
    refine ⟨?_, fun f => c_HOfNo h hL hk st hst F hF f part he⟩
    cases hq : (liveL F N).getD st false
    · rfl
    · obtain ⟨w, hw2⟩ := (live_word h hF hst).1 hq
      have := hw (wordOf lb part w)
      rw [hlang _ (wordOf_nn w), hid_takes h F hF w _ _ hin hw2] at this
      cases this
end
structure Pr where
  p : Int
  A : List (Int × Int)
  L : Nat
  st : Nat
  F : List Bool
  N : List (List Int)
abbrev prC (x : Pr) : List D := [i64 x.p, .sl false (duo x.A), i64 x.L, i64 x.st, .sl false (bos x.F), .sl false (iis x.N)]
abbrev prD (x : Pr) : D := .agg (prC x)
structure PWf (x : Pr) : Prop where
  ok : NOk x.L x.N.length x.N
  F : x.F.length = x.N.length
  n : 1 ≤ x.N.length ∧ x.N.length ≤ 1024
  s : x.st < x.N.length
  a : x.A.length ≤ 1000
set_option maxHeartbeats 16000000 in
theorem c_Formed {L k : Nat} {N : List (List Int)} (h : NOk L k N) (hL : L ≤ 1000) (hk : 1 ≤ k ∧ k ≤ 2000) (st : Nat) (hst : st < k) (F : List Bool) (hF : F.length = k) :
    Contract Try.prog 17 [dfaD L st F N] (bo true) [] := by
  refine contract_of_awp (rs := [2]) Try.func17 rfl Try.ntmps17 (by simp) rfl fun E => ?_
  have hl := h.len
  have e1 : ((k : Int) == 0) = false := by simp; omega
  have e2 : ((k : Int) != k) = false := by simp
  have e3 : decide ((st : Int) < 0) = false := by simp
  have e4 : decide ((st : Int) ≥ (k : Int)) = false := by simp; omega
  have e5 : ((L : Int) != L) = false := by simp
  (repeat (first | refine awp_seq ?_ | refine awp_block ?_ | ((first | refine awp_skip ?_ | refine awp_exit ?_ | refine awp_reg ttok ?_ | (refine awp_draw ttok ?dr_calm ?_; (case dr_calm => decide +kernel)) | refine awp_condM ?_); simp (maxSteps := 4000000) only [↓reduceIte, Nat.reduceLT, Nat.reduceEqDiff, reduceCtorEq, Nat.reduceAdd, Nat.reduceMul, Int.reduceLE, Int.reduceLT, Int.reduceToNat, Nat.reduceLeDiff, Nat.reduceSub, Int.reduceEq, Nat.reduceBEq, evB, tyA, dfaD, iis_len, bos_len, hl, hF, e1, e2, e3, e4]; (repeat (with_reducible refine And.intro ?_ ?_; exact sdX)); (with_reducible first | refine awp_id ?_ | refine id_call ?_ | refine id_and ?_ | refine id_ex ?_ | refine id_all ?_ | refine id_nat ?_ | refine id_le ?_))))
  refine awp_loop (X := Nat) (fun i => mkS 80 [(1, .ptr 1000 0 0), (3, i64 i)] [(1000, { sz := 4, rows := [[i64 L, i64 st, .sl false (bos F), .sl false (iis N)]], flat := false })]) (fun i => i ≤ k) (fun i => k - i) 0 (Nat.zero_le _) (mkS_le rfl ?_ ?_) ?_
  · simp (maxSteps := 4000000) only [↓reduceIte, Nat.reduceLT, Nat.reduceEqDiff, reduceCtorEq, Nat.reduceAdd, Nat.reduceMul, Int.reduceLE, Int.reduceLT, Int.reduceToNat, Nat.reduceLeDiff, Nat.reduceSub, Int.reduceEq, Nat.reduceBEq, evB]
    try rfl
  · simp (maxSteps := 4000000) only [↓reduceIte, Nat.reduceLT, Nat.reduceEqDiff, reduceCtorEq, Nat.reduceAdd, Nat.reduceMul, Int.reduceLE, Int.reduceLT, Int.reduceToNat, Nat.reduceLeDiff, Nat.reduceSub, Int.reduceEq, Nat.reduceBEq, evB]
    try rfl
  · intro i hi
    by_cases hlt : i < k
    · have d1 : decide ((i : Int) < (k : Int)) = true := by simpa using hlt
      have hwi : IntKind.i64.wrap ((i : Int) + 1) = ((i + 1 : Nat) : Int) := i64_in (by omega) (by omega)
      have hgi := iis_get (l := N) (i := i) (by omega)
      obtain ⟨hrl, hrt⟩ := h.get hlt
      generalize N.getD i [] = r at *
      (repeat (first | refine awp_seq ?_ | refine awp_block ?_ | ((first | refine awp_skip ?_ | refine awp_exit ?_ | refine awp_reg ttok ?_ | (refine awp_draw ttok ?dr_calm ?_; (case dr_calm => decide +kernel)) | refine awp_condM ?_); simp (maxSteps := 4000000) only [↓reduceIte, Nat.reduceLT, Nat.reduceEqDiff, reduceCtorEq, Nat.reduceAdd, Nat.reduceMul, Int.reduceLE, Int.reduceLT, Int.reduceToNat, Nat.reduceLeDiff, Nat.reduceSub, Int.reduceEq, Nat.reduceBEq, evB, tyA, d1, iis_len, hl, hgi, ints_len, hrl, e5]; (repeat (with_reducible refine And.intro ?_ ?_; exact sdX)); (with_reducible first | refine awp_id ?_ | refine id_call ?_ | refine id_and ?_ | refine id_ex ?_ | refine id_all ?_ | refine id_nat ?_ | refine id_le ?_))))
      refine awp_loop (X := Nat) (fun j => mkS 80 [(1, .ptr 1000 0 0), (3, i64 i), (4, i64 j)] [(1000, { sz := 4, rows := [[i64 L, i64 st, .sl false (bos F), .sl false (iis N)]], flat := false })]) (fun j => j ≤ L) (fun j => L - j) 0 (Nat.zero_le _) (mkS_le rfl ?_ ?_) ?_
      · simp (maxSteps := 4000000) only [↓reduceIte, Nat.reduceLT, Nat.reduceEqDiff, reduceCtorEq, Nat.reduceAdd, Nat.reduceMul, Int.reduceLE, Int.reduceLT, Int.reduceToNat, Nat.reduceLeDiff, Nat.reduceSub, Int.reduceEq, Nat.reduceBEq, evB]
        try rfl
      · simp (maxSteps := 4000000) only [↓reduceIte, Nat.reduceLT, Nat.reduceEqDiff, reduceCtorEq, Nat.reduceAdd, Nat.reduceMul, Int.reduceLE, Int.reduceLT, Int.reduceToNat, Nat.reduceLeDiff, Nat.reduceSub, Int.reduceEq, Nat.reduceBEq, evB]
        try rfl
      · intro j hj
        by_cases hjl : j < L
        · have d2 : decide ((j : Int) < (L : Int)) = true := by simpa using hjl
          have hwj : IntKind.i64.wrap ((j : Int) + 1) = ((j + 1 : Nat) : Int) := i64_in (by omega) (by omega)
          have hgr := ints_get (l := r) (i := j) (by omega)
          have hb := hrt _ (getD_mem (show j < r.length by omega) 0)
          generalize r.getD j 0 = t at *
          have f1 : decide (t < -1) = false := by simp; omega
          have f2 : decide (t ≥ (k : Int)) = false := by simp; omega
          (repeat (first | refine awp_seq ?_ | refine awp_block ?_ | ((first | refine awp_skip ?_ | refine awp_exit ?_ | refine awp_reg ttok ?_ | (refine awp_draw ttok ?dr_calm ?_; (case dr_calm => decide +kernel)) | refine awp_condM ?_); simp (maxSteps := 4000000) only [↓reduceIte, Nat.reduceLT, Nat.reduceEqDiff, reduceCtorEq, Nat.reduceAdd, Nat.reduceMul, Int.reduceLE, Int.reduceLT, Int.reduceToNat, Nat.reduceLeDiff, Nat.reduceSub, Int.reduceEq, Nat.reduceBEq, evB, tyA, d2, iis_len, hl, hgi, ints_len, hrl, hgr, f1, f2, hwj]; (repeat (with_reducible refine And.intro ?_ ?_; exact sdX)); (with_reducible first | refine awp_id ?_ | refine id_call ?_ | refine id_and ?_ | refine id_ex ?_ | refine id_all ?_ | refine id_nat ?_ | refine id_le ?_))))
          refine ⟨j + 1, by omega, by omega, mkS_le rfl ?_ ?_⟩
          · exact evX
          · exact evX
        · have d2 : decide ((j : Int) < (L : Int)) = false := by simpa using hjl
          (repeat (first | refine awp_seq ?_ | refine awp_block ?_ | ((first | refine awp_skip ?_ | refine awp_exit ?_ | refine awp_reg ttok ?_ | (refine awp_draw ttok ?dr_calm ?_; (case dr_calm => decide +kernel)) | refine awp_condM ?_); simp (maxSteps := 4000000) only [↓reduceIte, Nat.reduceLT, Nat.reduceEqDiff, reduceCtorEq, Nat.reduceAdd, Nat.reduceMul, Int.reduceLE, Int.reduceLT, Int.reduceToNat, Nat.reduceLeDiff, Nat.reduceSub, Int.reduceEq, Nat.reduceBEq, evB, tyA, d2, iis_len, hl, hgi, ints_len, hrl, hwi]; (repeat (with_reducible refine And.intro ?_ ?_; exact sdX)); (with_reducible first | refine awp_id ?_ | refine id_call ?_ | refine id_and ?_ | refine id_ex ?_ | refine id_all ?_ | refine id_nat ?_ | refine id_le ?_))))
          refine ⟨i + 1, by omega, by omega, mkS_le rfl ?_ ?_⟩
          · exact evX
          · exact evX
    · have d1 : decide ((i : Int) < (k : Int)) = false := by simpa using hlt
      (repeat (first | refine awp_seq ?_ | refine awp_block ?_ | ((first | refine awp_skip ?_ | refine awp_exit ?_ | refine awp_reg ttok ?_ | (refine awp_draw ttok ?dr_calm ?_; (case dr_calm => decide +kernel)) | refine awp_condM ?_); simp (maxSteps := 4000000) only [↓reduceIte, Nat.reduceLT, Nat.reduceEqDiff, reduceCtorEq, Nat.reduceAdd, Nat.reduceMul, Int.reduceLE, Int.reduceLT, Int.reduceToNat, Nat.reduceLeDiff, Nat.reduceSub, Int.reduceEq, Nat.reduceBEq, evB, tyA, d1, iis_len, hl]; (repeat (with_reducible refine And.intro ?_ ?_; exact sdX)); (with_reducible first | refine awp_id ?_ | refine id_call ?_ | refine id_and ?_ | refine id_ex ?_ | refine id_all ?_ | refine id_nat ?_ | refine id_le ?_))))
      exact awp_ret (ends_plain (.inr rfl) rfl evX)
def findA (A : List (Int × Int)) (a : Int × Int) : Int := if A.contains a = true then ((A.idxOf a : Nat) : Int) else -1
theorem findA_cons (x : Int × Int) (A : List (Int × Int)) (a : Int × Int) : findA (x :: A) a = if x = a then 0 else if findA A a = -1 then -1 else findA A a + 1 := by
  unfold findA
  by_cases e : x = a
  · rw [if_pos e, e]; simp
  · rw [if_neg e, List.contains_cons, List.idxOf_cons]
    have e1 : (x == a) = false := by simpa using e
    have e2 : (a == x) = false := by simpa using Ne.symm e
    rw [e2, e1, Bool.false_or]
    by_cases h : A.contains a = true
    · rw [if_pos h, if_pos h, if_neg (by omega)]; try simp
    · rw [if_neg h, if_neg h]; try simp
theorem findA_drop {A : List (Int × Int)} {a : Int × Int} : ∀ {i : Nat}, i ≤ A.length → (∀ j, j < i → A.getD j (0, 0) ≠ a) → findA A a = if findA (A.drop i) a = -1 then -1 else findA (A.drop i) a + i
  | 0, _, _ => by simp; try (split <;> simp_all)
  | i + 1, hi, hn => by
    rw [findA_drop (i := i) (by omega) fun j hj => hn j (by omega)]
    have hd : A.drop i = A.getD i (0, 0) :: A.drop (i + 1) := drop_getD (by omega) _
    rw [hd, findA_cons, if_neg (hn i (by omega))]
    have hb : -1 ≤ findA (A.drop (i + 1)) a := by unfold findA; split <;> omega
    by_cases q : findA (A.drop (i + 1)) a = -1
    · simp [q]
    · rw [if_neg q, if_neg (by omega), if_neg q]; omega
set_option maxHeartbeats 16000000 in
theorem c_PFind (x : Pr) (h : PWf x) (a : Int × Int) : Contract Try.prog 26 [prD x, .agg [i64 a.1, i64 a.2]] (i64 (findA x.A a)) [] := by
  refine contract_of_awp (rs := [4]) Try.func26 rfl Try.ntmps26 (by simp) rfl fun E => ?_
  have hal := h.a
  obtain ⟨a1, a2⟩ := a
  (repeat (first | refine awp_seq ?_ | refine awp_block ?_ | ((first | refine awp_skip ?_ | refine awp_exit ?_ | refine awp_reg ttok ?_ | (refine awp_draw ttok ?dr_calm ?_; (case dr_calm => decide +kernel)) | refine awp_condM ?_); simp (maxSteps := 4000000) only [↓reduceIte, Nat.reduceLT, Nat.reduceEqDiff, reduceCtorEq, Nat.reduceAdd, Nat.reduceMul, Int.reduceLE, Int.reduceLT, Int.reduceToNat, Nat.reduceLeDiff, Nat.reduceSub, Int.reduceEq, Nat.reduceBEq, evB, tyA, duo_len]; (repeat (with_reducible refine And.intro ?_ ?_; exact sdX)); (with_reducible first | refine awp_id ?_ | refine id_call ?_ | refine id_and ?_ | refine id_ex ?_ | refine id_all ?_ | refine id_nat ?_ | refine id_le ?_))))
  refine awp_loop (X := Nat) (fun i => mkS 20 [(3, .ptr 1001 0 0), (8, .sl false (duo x.A)), (9, i64 x.A.length), (10, i64 i)] [(1001, { sz := 2, rows := [[i64 a1, i64 a2]], flat := false })]) (fun i => i ≤ x.A.length ∧ ∀ j, j < i → x.A.getD j (0, 0) ≠ (a1, a2)) (fun i => x.A.length - i) 0 ⟨Nat.zero_le _, fun j hj => by omega⟩ (mkS_le rfl ?_ ?_) ?_
  · simp (maxSteps := 4000000) only [↓reduceIte, Nat.reduceLT, Nat.reduceEqDiff, reduceCtorEq, Nat.reduceAdd, Nat.reduceMul, Int.reduceLE, Int.reduceLT, Int.reduceToNat, Nat.reduceLeDiff, Nat.reduceSub, Int.reduceEq, Nat.reduceBEq, evB, duo_len]
    try rfl
  · simp (maxSteps := 4000000) only [↓reduceIte, Nat.reduceLT, Nat.reduceEqDiff, reduceCtorEq, Nat.reduceAdd, Nat.reduceMul, Int.reduceLE, Int.reduceLT, Int.reduceToNat, Nat.reduceLeDiff, Nat.reduceSub, Int.reduceEq, Nat.reduceBEq, evB]
    try rfl
  · rintro i ⟨hi, hn⟩
    have hfd := findA_drop hi hn
    by_cases hlt : i < x.A.length
    · have d1 : decide ((i : Int) < (x.A.length : Int)) = true := by simpa using hlt
      have hwi : IntKind.i64.wrap ((i : Int) + 1) = ((i + 1 : Nat) : Int) := i64_in (by omega) (by omega)
      have gi := duo_get hlt
      have hd : x.A.drop i = x.A.getD i (0, 0) :: x.A.drop (i + 1) := drop_getD hlt _
      rw [hd, findA_cons] at hfd
      have hnn : x.A.getD i (0, 0) ≠ (a1, a2) → ∀ j, j < i + 1 → x.A.getD j (0, 0) ≠ (a1, a2) := fun q j hj => by
        rcases Nat.lt_or_ge j i with g | g
        · exact hn j g
        · have : j = i := by omega
          rw [this]; exact q
      generalize x.A.getD i (0, 0) = y at *
      obtain ⟨y1, y2⟩ := y
      simp only at gi
      by_cases he : y1 = a1 ∧ y2 = a2
      · have k1 : (y1 == a1) = true := by simpa using he.1
        have k2 : (y2 == a2) = true := by simpa using he.2
        simp [he.1, he.2] at hfd
        (repeat (first | refine awp_seq ?_ | refine awp_block ?_ | ((first | refine awp_skip ?_ | refine awp_exit ?_ | refine awp_reg ttok ?_ | (refine awp_draw ttok ?dr_calm ?_; (case dr_calm => decide +kernel)) | refine awp_condM ?_); simp (maxSteps := 4000000) only [↓reduceIte, Nat.reduceLT, Nat.reduceEqDiff, reduceCtorEq, Nat.reduceAdd, Nat.reduceMul, Int.reduceLE, Int.reduceLT, Int.reduceToNat, Nat.reduceLeDiff, Nat.reduceSub, Int.reduceEq, Nat.reduceBEq, evB, tyA, d1, gi, duo_len, k1, k2]; (repeat (with_reducible refine And.intro ?_ ?_; exact sdX)); (with_reducible first | refine awp_id ?_ | refine id_call ?_ | refine id_and ?_ | refine id_ex ?_ | refine id_all ?_ | refine id_nat ?_ | refine id_le ?_))))
        exact awp_ret (ends_plain (.inr rfl) rfl (by simp (maxSteps := 4000000) only [↓reduceIte, Nat.reduceLT, Nat.reduceEqDiff, reduceCtorEq, Nat.reduceAdd, Nat.reduceMul, Int.reduceLE, Int.reduceLT, Int.reduceToNat, Nat.reduceLeDiff, Nat.reduceSub, Int.reduceEq, Nat.reduceBEq, evB, hfd]))
      · have hne : (y1, y2) ≠ (a1, a2) := fun q => he (by simpa using q)
        have k12 : (y1 == a1 && y2 == a2) = false := by
          cases q1 : (y1 == a1) <;> cases q2 : (y2 == a2) <;> simp_all
        by_cases h1 : y1 = a1
        · have k1 : (y1 == a1) = true := by simpa using h1
          have k2 : (y2 == a2) = false := by simpa using fun q => he ⟨h1, q⟩
          (repeat (first | refine awp_seq ?_ | refine awp_block ?_ | ((first | refine awp_skip ?_ | refine awp_exit ?_ | refine awp_reg ttok ?_ | (refine awp_draw ttok ?dr_calm ?_; (case dr_calm => decide +kernel)) | refine awp_condM ?_); simp (maxSteps := 4000000) only [↓reduceIte, Nat.reduceLT, Nat.reduceEqDiff, reduceCtorEq, Nat.reduceAdd, Nat.reduceMul, Int.reduceLE, Int.reduceLT, Int.reduceToNat, Nat.reduceLeDiff, Nat.reduceSub, Int.reduceEq, Nat.reduceBEq, evB, tyA, d1, gi, duo_len, k1, k2, hwi]; (repeat (with_reducible refine And.intro ?_ ?_; exact sdX)); (with_reducible first | refine awp_id ?_ | refine id_call ?_ | refine id_and ?_ | refine id_ex ?_ | refine id_all ?_ | refine id_nat ?_ | refine id_le ?_))))
          refine ⟨i + 1, ⟨by omega, hnn hne⟩, by omega, mkS_le rfl ?_ ?_⟩
          · exact evX
          · exact evX
        · have k1 : (y1 == a1) = false := by simpa using h1
          (repeat (first | refine awp_seq ?_ | refine awp_block ?_ | ((first | refine awp_skip ?_ | refine awp_exit ?_ | refine awp_reg ttok ?_ | (refine awp_draw ttok ?dr_calm ?_; (case dr_calm => decide +kernel)) | refine awp_condM ?_); simp (maxSteps := 4000000) only [↓reduceIte, Nat.reduceLT, Nat.reduceEqDiff, reduceCtorEq, Nat.reduceAdd, Nat.reduceMul, Int.reduceLE, Int.reduceLT, Int.reduceToNat, Nat.reduceLeDiff, Nat.reduceSub, Int.reduceEq, Nat.reduceBEq, evB, tyA, d1, gi, duo_len, k1, hwi]; (repeat (with_reducible refine And.intro ?_ ?_; exact sdX)); (with_reducible first | refine awp_id ?_ | refine id_call ?_ | refine id_and ?_ | refine id_ex ?_ | refine id_all ?_ | refine id_nat ?_ | refine id_le ?_))))
          refine ⟨i + 1, ⟨by omega, hnn hne⟩, by omega, mkS_le rfl ?_ ?_⟩
          · exact evX
          · exact evX
    · have d1 : decide ((i : Int) < (x.A.length : Int)) = false := by simpa using hlt
      have hnil : x.A.drop i = [] := List.drop_of_length_le (by omega)
      have hfn : findA ([] : List (Int × Int)) (a1, a2) = -1 := rfl
      rw [hnil, hfn, if_pos rfl] at hfd
      (repeat (first | refine awp_seq ?_ | refine awp_block ?_ | ((first | refine awp_skip ?_ | refine awp_exit ?_ | refine awp_reg ttok ?_ | (refine awp_draw ttok ?dr_calm ?_; (case dr_calm => decide +kernel)) | refine awp_condM ?_); simp (maxSteps := 4000000) only [↓reduceIte, Nat.reduceLT, Nat.reduceEqDiff, reduceCtorEq, Nat.reduceAdd, Nat.reduceMul, Int.reduceLE, Int.reduceLT, Int.reduceToNat, Nat.reduceLeDiff, Nat.reduceSub, Int.reduceEq, Nat.reduceBEq, evB, tyA, d1]; (repeat (with_reducible refine And.intro ?_ ?_; exact sdX)); (with_reducible first | refine awp_id ?_ | refine id_call ?_ | refine id_and ?_ | refine id_ex ?_ | refine id_all ?_ | refine id_nat ?_ | refine id_le ?_))))
      exact awp_ret (ends_plain (.inr rfl) rfl (by simp (maxSteps := 4000000) only [↓reduceIte, Nat.reduceLT, Nat.reduceEqDiff, reduceCtorEq, Nat.reduceAdd, Nat.reduceMul, Int.reduceLE, Int.reduceLT, Int.reduceToNat, Nat.reduceLeDiff, Nat.reduceSub, Int.reduceEq, Nat.reduceBEq, evB, hfd]))
theorem c_PTo (x : Pr) (h : PWf x) (s : Int) (a : Int × Int) : Contract Try.prog 18 [prD x, i64 s, .agg [i64 a.1, i64 a.2]] (i64 (toD x.N s (findA x.A a))) [] := by
  refine contract_of_awp (rs := [6]) Try.func18 rfl Try.ntmps18 (by simp) rfl fun E => ?_
  have hf := c_PFind x h a
  have hc := c_To h.ok x.st x.F s (findA x.A a)
  (repeat (first | refine awp_seq ?_ | refine awp_block ?_ | ((first | refine awp_skip ?_ | refine awp_exit ?_ | refine awp_reg ttok ?_ | (refine awp_draw ttok ?dr_calm ?_; (case dr_calm => decide +kernel)) | refine awp_condM ?_); simp (maxSteps := 4000000) only [↓reduceIte, Nat.reduceLT, Nat.reduceEqDiff, reduceCtorEq, Nat.reduceAdd, Nat.reduceMul, Int.reduceLE, Int.reduceLT, Int.reduceToNat, Nat.reduceLeDiff, Nat.reduceSub, Int.reduceEq, Nat.reduceBEq, evB, tyA]; (repeat (with_reducible refine And.intro ?_ ?_; exact sdX)); (with_reducible first | refine awp_id ?_ | refine id_call ?_ | refine id_and ?_ | refine id_ex ?_ | refine id_all ?_ | refine id_nat ?_ | refine id_le ?_))))
  refine awp_drawG ttok ((0, none) :: (1, none) :: (2, none) :: (3, none) :: (4, none) :: (5, some [0, 1, 2]) :: (6, some []) :: (7, none) :: []) ([]) ([]) (by decide +kernel) fun O hO => ?_; simp only [OpsAre, Nat.reduceAdd, and_true, List.toList_toArray, List.append_eq, List.cons_append, List.nil_append] at hO; simp (maxSteps := 4000000) only [↓reduceIte, Nat.reduceLT, Nat.reduceEqDiff, reduceCtorEq, Nat.reduceAdd, Nat.reduceMul, Int.reduceLE, Int.reduceLT, Int.reduceToNat, Nat.reduceLeDiff, Nat.reduceSub, Int.reduceEq, Nat.reduceBEq, evB, tyA, hO, ]; (repeat (with_reducible refine And.intro ?_ ?_; exact sdX))
  refine callVC_scal fnok26 hf rfl ?_
  simp (maxSteps := 4000000) only [↓reduceIte, Nat.reduceLT, Nat.reduceEqDiff, reduceCtorEq, Nat.reduceAdd, Nat.reduceMul, Int.reduceLE, Int.reduceLT, Int.reduceToNat, Nat.reduceLeDiff, Nat.reduceSub, Int.reduceEq, Nat.reduceBEq, evB, tyA, hO]
  (repeat (with_reducible refine And.intro ?_ ?_; exact sdX))
  refine callVC_scal fnok25 hc rfl ?_
  simp (maxSteps := 4000000) only [↓reduceIte, Nat.reduceLT, Nat.reduceEqDiff, reduceCtorEq, Nat.reduceAdd, Nat.reduceMul, Int.reduceLE, Int.reduceLT, Int.reduceToNat, Nat.reduceLeDiff, Nat.reduceSub, Int.reduceEq, Nat.reduceBEq, evB, tyA, hO]
  (repeat (with_reducible refine And.intro ?_ ?_; exact sdX))
  exact awp_ret (ends_plain (.inr rfl) rfl evX)
end Go.Proofs.Ytkpplakjdcpoaaa
