import Derived.Test.YtcpipfodedfpkaaRm
import Derived.Test.YtcpipfodedfpkaaHdw
set_option linter.unusedSimpArgs false
set_option linter.unusedVariables false
namespace Go.Proofs.Ytcpipfodedfpkaa
open Go.Ab
def leastR (L : Nat) (M : Mv) (F : List Bool) (st : Nat) : D := ofR L 0 (dFin F (dAll L M (cloL M [(st : Int)]))) (dNx L M (dAll L M (cloL M [(st : Int)])))
set_option maxRecDepth 20000 in
theorem c_Least {L k : Nat} {M : Mv} (h : MOk L k M) (hR : ∀ s, (M.getD s []).length ≤ 1000) (hL : L ≤ 100000) (hk : 1 ≤ k ∧ k ≤ 10) (st : Nat) (hst : st < k) (F : List Bool) (hF : F.length = k) :
    Contract Try.prog 11 [nfaD L st F M] (leastR L M F st) [] := by
  refine contract_of_awpV ttok (rs := [.cell 2 31, .tmp 3]) Try.func11 rfl Try.ntmps11 (by simp) rfl fun E => ?_
  have hD := c_DOf h hR hL hk st hst F hF
  have hA := DA.mk (L := L) (z := cloL M [(st : Int)]) (Q := dAll L M (cloL M [(st : Int)])) h ⟨_, rfl⟩ rfl
  have hlQ := hA.lenQ
  have h2k : 2 ^ k ≤ 1024 := Nat.pow_le_pow_right (show 0 < 2 by decide) hk.2
  unfold leastR
  generalize dAll L M (cloL M [(st : Int)]) = Q at *
  have hO := c_MOfR hA.ok 0 hA.q0.1 (dFin F Q) (by simp [dFin]) hL ⟨hA.q0.1, Nat.le_trans hlQ (Nat.le_trans h2k (by decide))⟩
  generalize dFin F Q = G at *
  generalize dNx L M Q = Y at *
  have c0 : ((0 : Int) != 0) = false := rfl
  clear h2k hlQ
  (repeat (first | refine awp_seq ?_ | refine awp_block ?_ | ((first | refine awp_skip ?_ | refine awp_exit ?_ | refine awp_reg ttok ?_ | (refine awp_draw ttok ?dr_calm ?_; (case dr_calm => decide +kernel)) | refine awp_condM ?_); simp (maxSteps := 4000000) only [↓reduceIte, Nat.reduceLT, Nat.reduceEqDiff, reduceCtorEq, Nat.reduceAdd, Nat.reduceMul, Int.reduceLE, Int.reduceLT, Int.reduceToNat, Nat.reduceLeDiff, Nat.reduceSub, Int.reduceEq, Nat.reduceBEq, evB, tyA, nfaD]; (repeat (with_reducible refine And.intro ?_ ?_; exact sdX)); (with_reducible first | refine awp_id ?_ | refine id_call ?_ | refine id_and ?_ | refine id_ex ?_ | refine id_all ?_ | refine id_nat ?_ | refine id_le ?_))))
  refine callVC_mk fnok42 hD rfl ?_
  simp (maxSteps := 4000000) only [↓reduceIte, Nat.reduceLT, Nat.reduceEqDiff, reduceCtorEq, Nat.reduceAdd, Nat.reduceMul, Int.reduceLE, Int.reduceLT, Int.reduceToNat, Nat.reduceLeDiff, Nat.reduceSub, Int.reduceEq, Nat.reduceBEq, evB, tyA, dfaD]
  (repeat (with_reducible refine And.intro ?_ ?_; exact sdX))
  (repeat (first | refine awp_seq ?_ | refine awp_block ?_ | ((first | refine awp_skip ?_ | refine awp_exit ?_ | refine awp_reg ttok ?_ | (refine awp_draw ttok ?dr_calm ?_; (case dr_calm => decide +kernel)) | refine awp_condM ?_); simp (maxSteps := 4000000) only [↓reduceIte, Nat.reduceLT, Nat.reduceEqDiff, reduceCtorEq, Nat.reduceAdd, Nat.reduceMul, Int.reduceLE, Int.reduceLT, Int.reduceToNat, Nat.reduceLeDiff, Nat.reduceSub, Int.reduceEq, Nat.reduceBEq, evB, tyA, c0]; (repeat (with_reducible refine And.intro ?_ ?_; exact sdX)); (with_reducible first | refine awp_id ?_ | refine id_call ?_ | refine id_and ?_ | refine id_ex ?_ | refine id_all ?_ | refine id_nat ?_ | refine id_le ?_))))
  refine callVC_mk fnok43 hO rfl ?_
  unfold ofR noDfa
  split
  · simp (maxSteps := 4000000) only [↓reduceIte, Nat.reduceLT, Nat.reduceEqDiff, reduceCtorEq, Nat.reduceAdd, Nat.reduceMul, Int.reduceLE, Int.reduceLT, Int.reduceToNat, Nat.reduceLeDiff, Nat.reduceSub, Int.reduceEq, Nat.reduceBEq, evB, tyA, dfaD]
    (repeat (with_reducible refine And.intro ?_ ?_; exact sdX))
    (repeat (first | refine awp_seq ?_ | refine awp_block ?_ | ((first | refine awp_skip ?_ | refine awp_exit ?_ | refine awp_reg ttok ?_ | (refine awp_draw ttok ?dr_calm ?_; (case dr_calm => decide +kernel)) | refine awp_condM ?_); simp (maxSteps := 4000000) only [↓reduceIte, Nat.reduceLT, Nat.reduceEqDiff, reduceCtorEq, Nat.reduceAdd, Nat.reduceMul, Int.reduceLE, Int.reduceLT, Int.reduceToNat, Nat.reduceLeDiff, Nat.reduceSub, Int.reduceEq, Nat.reduceBEq, evB, tyA]; (repeat (with_reducible refine And.intro ?_ ?_; exact sdX)); (with_reducible first | refine awp_id ?_ | refine id_call ?_ | refine id_and ?_ | refine id_ex ?_ | refine id_all ?_ | refine id_nat ?_ | refine id_le ?_))))
    exact awp_ret (endsV [] (.inr rfl) (by simp (maxSteps := 4000000) only [↓reduceIte, Nat.reduceLT, Nat.reduceEqDiff, reduceCtorEq, Nat.reduceAdd, Nat.reduceMul, Int.reduceLE, Int.reduceLT, Int.reduceToNat, Nat.reduceLeDiff, Nat.reduceSub, Int.reduceEq, Nat.reduceBEq, evB, tyA]; rfl) trivial evX)
  · simp (maxSteps := 4000000) only [↓reduceIte, Nat.reduceLT, Nat.reduceEqDiff, reduceCtorEq, Nat.reduceAdd, Nat.reduceMul, Int.reduceLE, Int.reduceLT, Int.reduceToNat, Nat.reduceLeDiff, Nat.reduceSub, Int.reduceEq, Nat.reduceBEq, evB, tyA, dfaD]
    (repeat (with_reducible refine And.intro ?_ ?_; exact sdX))
    (repeat (first | refine awp_seq ?_ | refine awp_block ?_ | ((first | refine awp_skip ?_ | refine awp_exit ?_ | refine awp_reg ttok ?_ | (refine awp_draw ttok ?dr_calm ?_; (case dr_calm => decide +kernel)) | refine awp_condM ?_); simp (maxSteps := 4000000) only [↓reduceIte, Nat.reduceLT, Nat.reduceEqDiff, reduceCtorEq, Nat.reduceAdd, Nat.reduceMul, Int.reduceLE, Int.reduceLT, Int.reduceToNat, Nat.reduceLeDiff, Nat.reduceSub, Int.reduceEq, Nat.reduceBEq, evB, tyA]; (repeat (with_reducible refine And.intro ?_ ?_; exact sdX)); (with_reducible first | refine awp_id ?_ | refine id_call ?_ | refine id_and ?_ | refine id_ex ?_ | refine id_all ?_ | refine id_nat ?_ | refine id_le ?_))))
    exact awp_ret (endsV [] (.inr rfl) (by simp (maxSteps := 4000000) only [↓reduceIte, Nat.reduceLT, Nat.reduceEqDiff, reduceCtorEq, Nat.reduceAdd, Nat.reduceMul, Int.reduceLE, Int.reduceLT, Int.reduceToNat, Nat.reduceLeDiff, Nat.reduceSub, Int.reduceEq, Nat.reduceBEq, evB, tyA]; rfl) trivial evX)
def hm (A : List (Int × Int)) (m : Int × Int) : Int × Int := (idxA A m.1 0, m.2)
theorem ends_consX {F : List Bool} {N : List (List Int)} (s a : Int) (w : List Int) : endsD F N s (a :: w) = endsD F N (toD N s a) w := by
  unfold endsD
  rw [runD]
  split
  · rename_i h
    have : toD N s a = -1 := by unfold toD; rw [if_pos (.inl h)]
    rw [this, runD_neg (by decide)]
    rw [decide_eq_false (by omega), decide_eq_false (by omega), Bool.false_and, Bool.false_and]
  · rfl
theorem ends_negX {F : List Bool} {N : List (List Int)} {s : Int} (h : s < 0) (w : List Int) : endsD F N s w = false := by
  unfold endsD
  rw [runD_neg h, decide_eq_false (by omega), Bool.false_and]
theorem toD_atX {L k : Nat} {N : List (List Int)} (h : NOk L k N) {s a : Nat} (hs : s < k) (ha : a < L) : toD N s a = (N.getD s []).getD a 0 := by
  have hl := h.len
  have := (h.get hs).1
  unfold toD
  rw [if_neg (by rw [Int.toNat_natCast]; omega), Int.toNat_natCast, Int.toNat_natCast]
theorem toD_farX {L k : Nat} {N : List (List Int)} (h : NOk L k N) {s : Nat} (hs : s < k) {a : Int} (ha : (L : Int) ≤ a) : toD N s a = -1 := by
  have hl := h.len
  have := (h.get hs).1
  unfold toD
  rw [if_pos (by rw [Int.toNat_natCast]; omega)]
section
variable {L k : Nat} {M : Mv} {z : List Int} {Q : List (List Int)}
theorem DA.lang (h : DA L k M z Q) (F : List Bool) : ∀ (w : List Int) (i : Nat), i < Q.length → (∀ x ∈ w, 0 ≤ x) → endsD (dFin F Q) (dNx L M Q) i w = finL F (takS M (Q.getD i []) w)
  | [], i, hi, _ => by
    have e : endsD (dFin F Q) (dNx L M Q) i [] = (decide (0 ≤ (i : Int)) && (dFin F Q).getD (i : Int).toNat false) := rfl
    rw [e, decide_eq_true (by omega), Bool.true_and, Int.toNat_natCast]
    unfold dFin
    rw [getD_mapD _ _ [] hi]
    rfl
  | a :: w, i, hi, hw => by
    have h0 := hw a (by simp)
    have hw' : ∀ x ∈ w, 0 ≤ x := fun x hx => hw x (by simp [hx])
    rw [ends_consX, takS]
    by_cases ha : a < (L : Int)
    · obtain ⟨b, rfl⟩ := Int.eq_ofNat_of_zero_le h0
      have hb : b < L := by omega
      rw [toD_atX h.ok hi hb, h.cell hi hb]
      have hhas := h.has hi hb
      unfold dNum
      split
      · rename_i he
        have : stepL M (Q.getD i []) (b : Int) = [] := by simpa using he
        rw [ends_negX (by decide), this, cloL_nil M h.hM, takS_nil h.hM]
        rfl
      · rename_i he
        have hm := hhas (by simpa using he)
        have hj := List.idxOf_lt_length_of_mem hm
        rw [h.lang F w _ hj hw']
        have e : Q.getD (Q.idxOf (dTo M (Q.getD i []) (b : Int))) [] = dTo M (Q.getD i []) (b : Int) := by
          have hg := List.getElem_idxOf hj
          rw [List.getD_eq_getElem?_getD, List.getElem?_eq_getElem hj, Option.getD_some, hg]
        rw [e]
        rfl
    · rw [toD_farX h.ok hi (by omega), ends_negX (by decide), stepL_far h.hM _ (by omega), cloL_nil M h.hM, takS_nil h.hM]
      rfl
end
def bkM (M : Mv) (st : Nat) : Mv := M ++ [[((-1 : Int), (st : Int))]]
def bkF (F : List Bool) : List Bool := F ++ [false]
section
variable {L k : Nat} {M : Mv} {st : Nat}
theorem bk_lt {s : Nat} (h : s < M.length) : (bkM M st).getD s [] = M.getD s [] := by
  simp [bkM, List.getD, List.getElem?_append_left h]
theorem bk_at : (bkM M st).getD M.length [] = [((-1 : Int), (st : Int))] := by
  simp [bkM, List.getD]
theorem bk_len : (bkM M st).length = M.length + 1 := by simp [bkM]
theorem bk_ok (h : MOk L k M) (hst : st < k) : MOk L (k + 1) (bkM M st) := by
  refine ⟨by rw [bk_len, h.len], fun r hr x hx => ?_⟩
  rcases List.mem_append.1 hr with g | g
  · have := h.row r g x hx
    omega
  · rw [List.mem_singleton] at g
    subst g
    rw [List.mem_singleton] at hx
    subst hx
    simp only
    omega
theorem er_back (h : MOk L k M) (hst : st < k) {l : List Int} (hl : ∀ x ∈ l, x < (k : Int)) {x : Nat} : ER (bkM M st) l x ↔ ER M l x := by
  have hk := h.len
  constructor
  · intro q
    induction q with
    | base h1 h2 => exact .base h1 (by have := hl _ h1; omega)
    | step _ hm ht ih =>
      have hs := ih.lt
      rw [bk_lt hs] at hm
      have := h.get _ _ hm
      exact .step ih hm (by simp only at this; omega)
  · intro q
    induction q with
    | base h1 h2 => exact .base h1 (by rw [bk_len]; omega)
    | step hs hm ht ih => exact .step ih (by rw [bk_lt hs.lt]; exact hm) (by rw [bk_len]; omega)
theorem er_start (h : MOk L k M) (hst : st < k) {x : Nat} : ER (bkM M st) [(k : Int)] x ↔ x = k ∨ ER M [(st : Int)] x := by
  have hk := h.len
  constructor
  · intro q
    induction q with
    | base h1 h2 => left; simp at h1; omega
    | @step s t _ hm ht ih =>
      right
      rcases ih with rfl | ih
      · rw [← hk, bk_at] at hm
        simp at hm
        have : t = st := by omega
        subst this
        exact .base (by simp) (by omega)
      · rw [bk_lt ih.lt] at hm
        have := h.get _ _ hm
        exact .step ih hm (by simp only at this; omega)
  · rintro (rfl | q)
    · exact .base (by simp) (by rw [bk_len]; omega)
    · induction q with
      | base h1 h2 =>
        have h3 := List.mem_singleton.1 h1
        rename_i y
        obtain rfl : y = st := by omega
        exact .step (.base (x := k) (by simp) (by rw [bk_len]; omega)) (by rw [← hk, bk_at]; simp) (by rw [bk_len]; omega)
      | step hs hm ht ih => exact .step ih (by rw [bk_lt hs.lt]; exact hm) (by rw [bk_len]; omega)
theorem clo_lt (h : MOk L k M) {l : List Int} {x : Int} (hx : x ∈ cloL M l) : 0 ≤ x ∧ x < (k : Int) := by
  obtain ⟨y, rfl, hy⟩ := (cloL_mem h).1 hx
  have := hy.lt
  have := h.len
  omega
theorem step_lt (h : MOk L k M) {l : List Int} {a x : Int} (hx : x ∈ stepL M l a) : 0 ≤ x ∧ x < (k : Int) := by
  obtain ⟨i, _, hm⟩ := (stepL_mem h).1 hx
  have := h.get i _ hm
  simp only at this
  omega
theorem clo_back (h : MOk L k M) (hst : st < k) {l : List Int} (hl : ∀ x ∈ l, x < (k : Int)) : cloL (bkM M st) l = cloL M l := by
  refine sorted_ext (onL_sorted _ _) (onL_sorted _ _) fun x => ?_
  show x ∈ cloL (bkM M st) l ↔ x ∈ cloL M l
  rw [cloL_mem (bk_ok h hst), cloL_mem h]
  constructor
  · rintro ⟨y, rfl, hy⟩; exact ⟨y, rfl, (er_back h hst hl).1 hy⟩
  · rintro ⟨y, rfl, hy⟩; exact ⟨y, rfl, (er_back h hst hl).2 hy⟩
theorem clo_start (h : MOk L k M) (hst : st < k) (x : Int) : x ∈ cloL (bkM M st) [(k : Int)] ↔ x = (k : Int) ∨ x ∈ cloL M [(st : Int)] := by
  rw [cloL_mem (bk_ok h hst), cloL_mem h]
  constructor
  · rintro ⟨y, rfl, hy⟩
    rcases (er_start h hst).1 hy with rfl | q
    · exact .inl rfl
    · exact .inr ⟨y, rfl, q⟩
  · rintro (rfl | ⟨y, rfl, hy⟩)
    · exact ⟨k, rfl, (er_start h hst).2 (.inl rfl)⟩
    · exact ⟨y, rfl, (er_start h hst).2 (.inr hy)⟩
theorem step_back (h : MOk L k M) (hst : st < k) {S S' : List Int} (hS : ∀ x ∈ S, 0 ≤ x ∧ x < (k : Int)) (hS' : ∀ x, x ∈ S' → x = (k : Int) ∨ x ∈ S) (hSS : ∀ x ∈ S, x ∈ S') {a : Int} (ha : 0 ≤ a) : stepL (bkM M st) S' a = stepL M S a := by
  refine sorted_ext (onL_sorted _ _) (onL_sorted _ _) fun x => ?_
  show x ∈ stepL (bkM M st) S' a ↔ x ∈ stepL M S a
  rw [stepL_mem (bk_ok h hst), stepL_mem h]
  have hk := h.len
  constructor
  · rintro ⟨i, hi, hm⟩
    rcases hS' _ hi with q | q
    · have : i = k := by omega
      subst this
      rw [← hk, bk_at] at hm
      simp at hm
      omega
    · have := hS _ q
      rw [bk_lt (by omega)] at hm
      exact ⟨i, q, hm⟩
  · rintro ⟨i, hi, hm⟩
    have := hS _ hi
    exact ⟨i, hSS _ hi, by rw [bk_lt (by omega)]; exact hm⟩
theorem tak_back (h : MOk L k M) (hst : st < k) : ∀ (w S : List Int), (∀ x ∈ S, 0 ≤ x ∧ x < (k : Int)) → (∀ x ∈ w, 0 ≤ x) → takS (bkM M st) S w = takS M S w
  | [], S, _, _ => rfl
  | a :: w, S, hS, hw => by
    rw [takS, takS, step_back h hst hS (fun x hx => .inr hx) (fun x hx => hx) (hw a (by simp)), clo_back h hst (fun x hx => (step_lt h hx).2)]
    exact tak_back h hst w _ (fun x hx => clo_lt h hx) (fun x hx => hw x (by simp [hx]))
theorem tak_lt (h : MOk L k M) : ∀ (w S : List Int), (∀ x ∈ S, 0 ≤ x ∧ x < (k : Int)) → ∀ x ∈ takS M S w, 0 ≤ x ∧ x < (k : Int)
  | [], S, hS => hS
  | a :: w, S, hS => by
    rw [takS]
    exact tak_lt h w _ (fun x hx => clo_lt h hx)
theorem fin_back {F : List Bool} (hF : F.length = k) {S S' : List Int} (hS : ∀ x ∈ S, 0 ≤ x ∧ x < (k : Int)) (hS' : ∀ x, x ∈ S' → x = (k : Int) ∨ x ∈ S) (hSS : ∀ x ∈ S, x ∈ S') : finL (bkF F) S' = finL F S := by
  unfold finL
  rw [Bool.eq_iff_iff, List.any_eq_true, List.any_eq_true]
  have hg : ∀ x : Int, 0 ≤ x → x < (k : Int) → (bkF F).getD x.toNat false = F.getD x.toNat false := fun x h0 h1 => by
    simp only [bkF, List.getD, List.getElem?_append_left (show x.toNat < F.length by omega)]
  constructor
  · rintro ⟨x, hx, hp⟩
    simp only [Bool.and_eq_true, decide_eq_true_eq] at hp
    rcases hS' x hx with rfl | q
    · exfalso
      have : (bkF F).getD (k : Int).toNat false = false := by
        rw [Int.toNat_natCast, ← hF]; simp [bkF, List.getD]
      rw [this] at hp; exact absurd hp.2 (by decide)
    · have := hS x q
      refine ⟨x, q, ?_⟩
      simp only [Bool.and_eq_true, decide_eq_true_eq]
      rw [← hg x this.1 this.2]
      exact ⟨⟨this.1, by omega⟩, hp.2⟩
  · rintro ⟨x, hx, hp⟩
    simp only [Bool.and_eq_true, decide_eq_true_eq] at hp
    have := hS x hx
    refine ⟨x, hSS x hx, ?_⟩
    simp only [Bool.and_eq_true, decide_eq_true_eq]
    rw [hg x this.1 this.2]
    have hl : (bkF F).length = k + 1 := by simp [bkF, hF]
    exact ⟨⟨this.1, by omega⟩, hp.2⟩
theorem takB_back (h : MOk L k M) (hst : st < k) {F : List Bool} (hF : F.length = k) (w : List Int) (hw : ∀ x ∈ w, 0 ≤ x) : takB (bkM M st) (bkF F) k w = takB M F st w := by
  unfold takB
  have h1 : ∀ x ∈ cloL M [(st : Int)], 0 ≤ x ∧ x < (k : Int) := fun x hx => clo_lt h hx
  have h2 := clo_start h hst
  cases w with
  | nil =>
    rw [takS, takS]
    exact fin_back hF h1 (fun x hx => (h2 x).1 hx) (fun x hx => (h2 x).2 (.inr hx))
  | cons a w =>
    rw [takS, takS, step_back h hst h1 (fun x hx => (h2 x).1 hx) (fun x hx => (h2 x).2 (.inr hx)) (hw a (by simp)), clo_back h hst (fun x hx => (step_lt h hx).2), tak_back h hst w _ (fun x hx => clo_lt h hx) (fun x hx => hw x (by simp [hx]))]
    have h3 := tak_lt h w (cloL M (stepL M (cloL M [(st : Int)]) a)) (fun x hx => clo_lt h hx)
    exact fin_back hF h3 (fun x hx => .inr hx) (fun x hx => hx)
theorem runD_bad {N : List (List Int)} : ∀ (w : List Int) (s : Int), (∃ x ∈ w, x < 0) → runD N s w < 0
  | [], s, h => by obtain ⟨x, hx, _⟩ := h; cases hx
  | a :: w, s, h => by
    rcases Int.lt_or_le s 0 with q | q
    · rw [runD_neg q]; exact q
    · have e : runD N s (a :: w) = runD N (toD N s a) w := by rw [runD, if_neg (by omega)]
      rw [e]
      obtain ⟨x, hx, h0⟩ := h
      rcases List.mem_cons.1 hx with rfl | hx
      · rw [toD_bad1 N s x (.inr (.inr h0)), runD_neg (by decide)]; decide
      · exact runD_bad w _ ⟨x, hx, h0⟩
theorem endsD_bad {F : List Bool} {N : List (List Int)} {w : List Int} (s : Int) (h : ∃ x ∈ w, x < 0) : endsD F N s w = false := by
  have := runD_bad (N := N) w s h
  unfold endsD
  rw [decide_eq_false (by omega), Bool.false_and]
theorem least_back (h : MOk L k M) (hst : st < k) {F : List Bool} (hF : F.length = k) (hk : k ≤ 1000) : leastR L (bkM M st) (bkF F) k = leastR L M F st := by
  have hA := DA.mk (L := L) (z := cloL M [(st : Int)]) (Q := dAll L M (cloL M [(st : Int)])) h ⟨_, rfl⟩ rfl
  have hB := DA.mk (L := L) (z := cloL (bkM M st) [(k : Int)]) (Q := dAll L (bkM M st) (cloL (bkM M st) [(k : Int)])) (bk_ok h hst) ⟨_, rfl⟩ rfl
  unfold leastR
  refine ofR_uniq ⟨hB.ok, hA.ok, DA.finLen _ _, DA.finLen _ _⟩ hB.q0.1 hA.q0.1 fun w => ?_
  by_cases hw : ∃ x ∈ w, x < 0
  · rw [endsD_bad _ hw, endsD_bad _ hw]
  · have hw' : ∀ x ∈ w, 0 ≤ x := fun x hx => Int.not_lt.1 fun q => hw ⟨x, hx, q⟩
    rw [hB.lang (bkF F) w 0 hB.q0.1 hw', hA.lang F w 0 hA.q0.1 hw', hB.q0.2, hA.q0.2]
    exact takB_back h hst hF w hw'
theorem least_says (h : MOk L k M) (hk : k ≤ 10) (st : Nat) {F : List Bool} : ∃ (L' : Nat) (e : Int) (fl : Bool) (H : List Bool) (Y : List (List Int)), leastR L M F st = .tup [.agg [i64 L', i64 ((0 : Nat) : Int), .sl fl (bos H), .sl fl (iis Y)], i64 e] ∧
    ((e = 0 ∧ L' = L ∧ fl = false ∧ 1 ≤ Y.length ∧ Y.length ≤ 1024 ∧ NOk L Y.length Y ∧ H.length = Y.length ∧ ∀ w, (∀ x ∈ w, 0 ≤ x) → endsD H Y ((0 : Nat) : Int) w = takB M F st w) ∨
     (e = 13 ∧ ∀ w, (∀ x ∈ w, 0 ≤ x) → takB M F st w = false)) := by
  have hA := DA.mk (L := L) (z := cloL M [(st : Int)]) (Q := dAll L M (cloL M [(st : Int)])) h ⟨_, rfl⟩ rfl
  have h2k : 2 ^ k ≤ 1024 := Nat.pow_le_pow_right (show 0 < 2 by decide) hk
  have hlQ := hA.lenQ
  have hlang := fun w (hw : ∀ x ∈ w, 0 ≤ x) => hA.lang F w 0 hA.q0.1 hw
  rw [hA.q0.2] at hlang
  have hs := ofR_says hA.ok hA.q0.1 (dFin F (dAll L M (cloL M [(st : Int)]))) (by simp [dFin]) (by omega)
  unfold leastR
  rcases hs with ⟨h1, j, H, Y, j1, j2, hY, hH, he, hw⟩ | ⟨h1, he, hw⟩
  · have hl := hY.len
    subst hl
    refine ⟨L, 0, false, H, Y, he, .inl ⟨rfl, rfl, rfl, j1, by omega, hY, hH, fun w hn => ?_⟩⟩
    rw [hw w, hlang w hn]; rfl
  · refine ⟨0, 13, true, [], [], he, .inr ⟨rfl, fun w hn => ?_⟩⟩
    have := hlang w hn
    rw [hw w] at this
    exact this.symm
end
end Go.Proofs.Ytcpipfodedfpkaa
