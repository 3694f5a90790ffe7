import Derived.Test.YtglcnghfmdcdpaaIdx
import Derived.Test.YtglcnghfmdcdpaaFin
import Derived.Test.YtglcnghfmdcdpaaTy
import Derived.Test.YtglcnghfmdcdpaaAbY
set_option linter.unusedSimpArgs false
set_option linter.unusedVariables false
namespace Go.Proofs.Ytglcnghfmdcdpaa
open Go.Ab
abbrev dfaR (L s : Nat) (F : List Bool) (N : List (List Int)) : List D := [i64 L, i64 s, .sl false (bos F), .sl false (iis N)]
theorem c_May11 (L st : Nat) (F : List Bool) (N : List (List Int)) (n : Int) : Contract Try.prog 27 [i64 n, .ref (dfaR L st F N) 0] (bo (decide (n < -1) || decide (n ≥ (N.length : Int)))) [] := by
  refine contract_of_awp (rs := [3]) Try.func27 rfl Try.ntmps27 (by simp) rfl fun E => ?_
  cases k1 : decide (n < -1)
  · (repeat (first | refine awp_seq ?_ | refine awp_block ?_ | ((first | refine awp_skip ?_ | refine awp_exit ?_ | refine awp_reg ttok ?_ | (refine awp_draw ttok ?dr_calm ?_; (case dr_calm => decide +kernel)) | refine awp_condM ?_); simp (maxSteps := 4000000) only [↓reduceIte, Nat.reduceLT, Nat.reduceEqDiff, reduceCtorEq, Nat.reduceAdd, Nat.reduceMul, Int.reduceLE, Int.reduceLT, Int.reduceToNat, Nat.reduceLeDiff, Nat.reduceSub, Int.reduceEq, Nat.reduceBEq, evB, tyA, dfaR, k1, iis_len]; (repeat (with_reducible refine And.intro ?_ ?_; exact sdX)); (with_reducible first | refine awp_id ?_ | refine id_call ?_ | refine id_and ?_ | refine id_ex ?_ | refine id_all ?_ | refine id_nat ?_ | refine id_le ?_))))
    exact awp_ret (ends_plain (.inr rfl) rfl (by simp (maxSteps := 4000000) only [↓reduceIte, Nat.reduceLT, Nat.reduceEqDiff, reduceCtorEq, Nat.reduceAdd, Nat.reduceMul, Int.reduceLE, Int.reduceLT, Int.reduceToNat, Nat.reduceLeDiff, Nat.reduceSub, Int.reduceEq, Nat.reduceBEq, evB, Bool.false_or]))
  · (repeat (first | refine awp_seq ?_ | refine awp_block ?_ | ((first | refine awp_skip ?_ | refine awp_exit ?_ | refine awp_reg ttok ?_ | (refine awp_draw ttok ?dr_calm ?_; (case dr_calm => decide +kernel)) | refine awp_condM ?_); simp (maxSteps := 4000000) only [↓reduceIte, Nat.reduceLT, Nat.reduceEqDiff, reduceCtorEq, Nat.reduceAdd, Nat.reduceMul, Int.reduceLE, Int.reduceLT, Int.reduceToNat, Nat.reduceLeDiff, Nat.reduceSub, Int.reduceEq, Nat.reduceBEq, evB, tyA, k1]; (repeat (with_reducible refine And.intro ?_ ?_; exact sdX)); (with_reducible first | refine awp_id ?_ | refine id_call ?_ | refine id_and ?_ | refine id_ex ?_ | refine id_all ?_ | refine id_nat ?_ | refine id_le ?_))))
    exact awp_ret (ends_plain (.inr rfl) rfl (by simp (maxSteps := 4000000) only [↓reduceIte, Nat.reduceLT, Nat.reduceEqDiff, reduceCtorEq, Nat.reduceAdd, Nat.reduceMul, Int.reduceLE, Int.reduceLT, Int.reduceToNat, Nat.reduceLeDiff, Nat.reduceSub, Int.reduceEq, Nat.reduceBEq, evB, Bool.true_or]))
theorem c_May1 {L k : Nat} {N : List (List Int)} (h : NOk L k N) (hL : L ≤ 100000) (st : Nat) (F : List Bool) (x : List Int) (hx : x ∈ N) : Contract Try.prog 26 [.sl false (ints x), .ref (dfaR L st F N) 0] (bo false) [] := by
  refine contract_of_awp (rs := [3]) Try.func26 rfl Try.ntmps26 (by simp) rfl fun E => ?_
  obtain ⟨h1, h2⟩ := h.row x hx
  have hl := h.len
  have e1 : ((L : Int) != (L : Int)) = false := by simp
  have ha : (x.any fun n => decide (n < -1) || decide (n ≥ (N.length : Int))) = false := by
    rw [List.any_eq_false]
    intro n hn
    have := h2 n hn
    simp only [Bool.or_eq_true, decide_eq_true_eq, not_or]
    omega
  (repeat (first | refine awp_seq ?_ | refine awp_block ?_ | ((first | refine awp_skip ?_ | refine awp_exit ?_ | refine awp_reg ttok ?_ | (refine awp_draw ttok ?dr_calm ?_; (case dr_calm => decide +kernel)) | refine awp_condM ?_); simp (maxSteps := 4000000) only [↓reduceIte, Nat.reduceLT, Nat.reduceEqDiff, reduceCtorEq, Nat.reduceAdd, Nat.reduceMul, Int.reduceLE, Int.reduceLT, Int.reduceToNat, Nat.reduceLeDiff, Nat.reduceSub, Int.reduceEq, Nat.reduceBEq, evB, tyA, dfaR, ints_len, h1, e1]; (repeat (with_reducible refine And.intro ?_ ?_; exact sdX)); (with_reducible first | refine awp_id ?_ | refine id_call ?_ | refine id_and ?_ | refine id_ex ?_ | refine id_all ?_ | refine id_nat ?_ | refine id_le ?_))))
  refine callVC_scal fnok23 (c_CtI _ (dfaR L st F N) fnok27 _ false x (by omega) fun n _ => c_May11 L st F N n) rfl ?_
  simp (maxSteps := 4000000) only [↓reduceIte, Nat.reduceLT, Nat.reduceEqDiff, reduceCtorEq, Nat.reduceAdd, Nat.reduceMul, Int.reduceLE, Int.reduceLT, Int.reduceToNat, Nat.reduceLeDiff, Nat.reduceSub, Int.reduceEq, Nat.reduceBEq, evB, tyA, ha]
  (repeat (with_reducible refine And.intro ?_ ?_; exact sdX))
  (repeat (first | refine awp_seq ?_ | refine awp_block ?_ | ((first | refine awp_skip ?_ | refine awp_exit ?_ | refine awp_reg ttok ?_ | (refine awp_draw ttok ?dr_calm ?_; (case dr_calm => decide +kernel)) | refine awp_condM ?_); simp (maxSteps := 4000000) only [↓reduceIte, Nat.reduceLT, Nat.reduceEqDiff, reduceCtorEq, Nat.reduceAdd, Nat.reduceMul, Int.reduceLE, Int.reduceLT, Int.reduceToNat, Nat.reduceLeDiff, Nat.reduceSub, Int.reduceEq, Nat.reduceBEq, evB, tyA, ha]; (repeat (with_reducible refine And.intro ?_ ?_; exact sdX)); (with_reducible first | refine awp_id ?_ | refine id_call ?_ | refine id_and ?_ | refine id_ex ?_ | refine id_all ?_ | refine id_nat ?_ | refine id_le ?_))))
  exact awp_ret (ends_plain (.inr rfl) rfl evX)
set_option maxRecDepth 20000 in
set_option maxHeartbeats 16000000 in
theorem c_May {L k : Nat} {N : List (List Int)} (h : NOk L k N) (st : Nat) (hst : st < k) (F : List Bool) (hF : F.length = k) (hL : L ≤ 100000) (hk : 1 ≤ k ∧ k ≤ 2000) : Contract Try.prog 20 [dfaD L st F N] (bo true) [] := by
  refine contract_of_awp (rs := [2]) Try.func20 rfl Try.ntmps20 (by simp) rfl fun E => ?_
  have hl := h.len
  have d1 : decide ((L : Int) < 0) = false := by simp
  have d2 : ((k : Int) != (k : Int)) = false := by simp
  have d3 : decide ((k : Int) < 1) = false := by simp; omega
  have d4 : decide ((k : Int) > 2000) = false := by simp; omega
  have d5 : decide ((st : Int) < 0) = false := by simp
  have d6 : decide ((st : Int) ≥ (k : Int)) = false := by simp; omega
  have ha : (N.any fun _ => false) = false := by simp
  (repeat (first | refine awp_seq ?_ | refine awp_block ?_ | ((first | refine awp_skip ?_ | refine awp_exit ?_ | refine awp_reg ttok ?_ | (refine awp_draw ttok ?dr_calm ?_; (case dr_calm => decide +kernel)) | refine awp_condM ?_); simp (maxSteps := 4000000) only [↓reduceIte, Nat.reduceLT, Nat.reduceEqDiff, reduceCtorEq, Nat.reduceAdd, Nat.reduceMul, Int.reduceLE, Int.reduceLT, Int.reduceToNat, Nat.reduceLeDiff, Nat.reduceSub, Int.reduceEq, Nat.reduceBEq, evB, tyA, dfaD, d1, bos_len, iis_len, hl, hF, d2, d3, d4, d5, d6]; (repeat (with_reducible refine And.intro ?_ ?_; exact sdX)); (with_reducible first | refine awp_id ?_ | refine id_call ?_ | refine id_and ?_ | refine id_ex ?_ | refine id_all ?_ | refine id_nat ?_ | refine id_le ?_))))
  refine callVC_scal fnok25 (c_CtII _ (dfaR L st F N) fnok26 (fun _ => false) false N (by omega) fun x hx => c_May1 h hL st F x hx) rfl ?_
  simp (maxSteps := 4000000) only [↓reduceIte, Nat.reduceLT, Nat.reduceEqDiff, reduceCtorEq, Nat.reduceAdd, Nat.reduceMul, Int.reduceLE, Int.reduceLT, Int.reduceToNat, Nat.reduceLeDiff, Nat.reduceSub, Int.reduceEq, Nat.reduceBEq, evB, tyA, ha]
  (repeat (with_reducible refine And.intro ?_ ?_; exact sdX))
  (repeat (first | refine awp_seq ?_ | refine awp_block ?_ | ((first | refine awp_skip ?_ | refine awp_exit ?_ | refine awp_reg ttok ?_ | (refine awp_draw ttok ?dr_calm ?_; (case dr_calm => decide +kernel)) | refine awp_condM ?_); simp (maxSteps := 4000000) only [↓reduceIte, Nat.reduceLT, Nat.reduceEqDiff, reduceCtorEq, Nat.reduceAdd, Nat.reduceMul, Int.reduceLE, Int.reduceLT, Int.reduceToNat, Nat.reduceLeDiff, Nat.reduceSub, Int.reduceEq, Nat.reduceBEq, evB, tyA, ha]; (repeat (with_reducible refine And.intro ?_ ?_; exact sdX)); (with_reducible first | refine awp_id ?_ | refine id_call ?_ | refine id_and ?_ | refine id_ex ?_ | refine id_all ?_ | refine id_nat ?_ | refine id_le ?_))))
  exact awp_ret (ends_plain (.inr rfl) rfl evX)
theorem c_CloneBo (full : Bool) (l : List Bool) (hl : l.length ≤ 100000) (hne : l ≠ []) : Contract Try.prog 29 [.sl full (bos l)] (.own 0 0 l.length) [{ sz := 1, rows := bos l }] := by
  refine contract_of_awp (rs := [2]) Try.func29 rfl Try.ntmps29 (by simp) rfl fun E => ?_
  (repeat (first | refine awp_seq ?_ | refine awp_block ?_ | ((first | refine awp_skip ?_ | refine awp_exit ?_ | refine awp_reg ttok ?_ | (refine awp_draw ttok ?dr_calm ?_; (case dr_calm => decide +kernel)) | refine awp_condM ?_); simp (maxSteps := 4000000) only [↓reduceIte, Nat.reduceLT, Nat.reduceEqDiff, reduceCtorEq, Nat.reduceAdd, Nat.reduceMul, Int.reduceLE, Int.reduceLT, Int.reduceToNat, Nat.reduceLeDiff, Nat.reduceSub, Int.reduceEq, Nat.reduceBEq, evB, tyA, bos_len, bos_row]; (repeat (with_reducible refine And.intro ?_ ?_; exact sdX)); (with_reducible first | refine awp_id ?_ | refine id_call ?_ | refine id_and ?_ | refine id_ex ?_ | refine id_all ?_ | refine id_nat ?_ | refine id_le ?_))))
  intro b hb
  refine awp_cond (t := (b != false)) ?_ (fun h => ?_) (fun h => ?_)
  · exact evX
  · exfalso
    have := hb (by simpa using h)
    rw [bos_nil] at this
    exact hne this
  · (repeat (first | refine awp_seq ?_ | refine awp_block ?_ | ((first | refine awp_skip ?_ | refine awp_exit ?_ | refine awp_reg ttok ?_ | (refine awp_draw ttok ?dr_calm ?_; (case dr_calm => decide +kernel)) | refine awp_condM ?_); simp (maxSteps := 4000000) only [↓reduceIte, Nat.reduceLT, Nat.reduceEqDiff, reduceCtorEq, Nat.reduceAdd, Nat.reduceMul, Int.reduceLE, Int.reduceLT, Int.reduceToNat, Nat.reduceLeDiff, Nat.reduceSub, Int.reduceEq, Nat.reduceBEq, evB, tyA, bos_len, bos_row]; (repeat (with_reducible refine And.intro ?_ ?_; exact sdX)); (with_reducible first | refine awp_id ?_ | refine id_call ?_ | refine id_and ?_ | refine id_ex ?_ | refine id_all ?_ | refine id_nat ?_ | refine id_le ?_))))
    exact awp_ret (ends_own (g := 4000) (.inr rfl) (by simp (maxSteps := 4000000) only [↓reduceIte, Nat.reduceLT, Nat.reduceEqDiff, reduceCtorEq, Nat.reduceAdd, Nat.reduceMul, Int.reduceLE, Int.reduceLT, Int.reduceToNat, Nat.reduceLeDiff, Nat.reduceSub, Int.reduceEq, Nat.reduceBEq, evB, bos_len]) evX rfl)
theorem c_Live1 (o : List Bool) (s : Int) (hs : s < (o.length : Int)) : Contract Try.prog 30 [i64 s, .ref [.sl false (bos o)] 0] (bo (decide (s ≥ 0) && o.getD s.toNat false)) [] := by
  refine contract_of_awp (rs := [3]) Try.func30 rfl Try.ntmps30 (by simp) rfl fun E => ?_
  by_cases h0 : s ≥ 0
  · have d1 : decide (s ≥ 0) = true := by simpa using h0
    obtain ⟨y, rfl⟩ := Int.eq_ofNat_of_zero_le h0
    have hg := bos_get (l := o) (i := y) (by omega)
    (repeat (first | refine awp_seq ?_ | refine awp_block ?_ | ((first | refine awp_skip ?_ | refine awp_exit ?_ | refine awp_reg ttok ?_ | (refine awp_draw ttok ?dr_calm ?_; (case dr_calm => decide +kernel)) | refine awp_condM ?_); simp (maxSteps := 4000000) only [↓reduceIte, Nat.reduceLT, Nat.reduceEqDiff, reduceCtorEq, Nat.reduceAdd, Nat.reduceMul, Int.reduceLE, Int.reduceLT, Int.reduceToNat, Nat.reduceLeDiff, Nat.reduceSub, Int.reduceEq, Nat.reduceBEq, evB, tyA, d1, hg, bos_len]; (repeat (with_reducible refine And.intro ?_ ?_; exact sdX)); (with_reducible first | refine awp_id ?_ | refine id_call ?_ | refine id_and ?_ | refine id_ex ?_ | refine id_all ?_ | refine id_nat ?_ | refine id_le ?_))))
    exact awp_ret (ends_plain (.inr rfl) rfl (by simp (maxSteps := 4000000) only [↓reduceIte, Nat.reduceLT, Nat.reduceEqDiff, reduceCtorEq, Nat.reduceAdd, Nat.reduceMul, Int.reduceLE, Int.reduceLT, Int.reduceToNat, Nat.reduceLeDiff, Nat.reduceSub, Int.reduceEq, Nat.reduceBEq, evB, d1, Bool.true_and, Int.toNat_natCast]))
  · have d1 : decide (s ≥ 0) = false := by simpa using h0
    (repeat (first | refine awp_seq ?_ | refine awp_block ?_ | ((first | refine awp_skip ?_ | refine awp_exit ?_ | refine awp_reg ttok ?_ | (refine awp_draw ttok ?dr_calm ?_; (case dr_calm => decide +kernel)) | refine awp_condM ?_); simp (maxSteps := 4000000) only [↓reduceIte, Nat.reduceLT, Nat.reduceEqDiff, reduceCtorEq, Nat.reduceAdd, Nat.reduceMul, Int.reduceLE, Int.reduceLT, Int.reduceToNat, Nat.reduceLeDiff, Nat.reduceSub, Int.reduceEq, Nat.reduceBEq, evB, tyA, d1]; (repeat (with_reducible refine And.intro ?_ ?_; exact sdX)); (with_reducible first | refine awp_id ?_ | refine id_call ?_ | refine id_and ?_ | refine id_ex ?_ | refine id_all ?_ | refine id_nat ?_ | refine id_le ?_))))
    exact awp_ret (ends_plain (.inr rfl) rfl (by simp (maxSteps := 4000000) only [↓reduceIte, Nat.reduceLT, Nat.reduceEqDiff, reduceCtorEq, Nat.reduceAdd, Nat.reduceMul, Int.reduceLE, Int.reduceLT, Int.reduceToNat, Nat.reduceLeDiff, Nat.reduceSub, Int.reduceEq, Nat.reduceBEq, evB, d1, Bool.false_and]))
theorem swp_same {N : List (List Int)} {o : List Bool} {i : Nat} (h : (!(swpS N o i).getD i false && (N.getD i []).any fun s => decide (s ≥ 0) && (swpS N o i).getD s.toNat false) = false) (hi : i < o.length) : swpS N o (i + 1) = swpS N o i := by
  have hl := swpS_len N o i
  rw [swpS]
  generalize swpS N o i = p at *
  unfold swp1
  split
  · rename_i ha
    rw [ha, Bool.and_true, Bool.not_eq_false'] at h
    apply List.ext_getElem (by simp)
    intro j h1 h2
    rw [List.getElem_set]
    split
    · rename_i e; subst e
      simpa [List.getD, List.getElem?_eq_getElem h2] using h.symm
    · rfl
  · rfl
theorem swp_turn {N : List (List Int)} {o : List Bool} {i : Nat} (h : (!(swpS N o i).getD i false && (N.getD i []).any fun s => decide (s ≥ 0) && (swpS N o i).getD s.toNat false) = true) (hi : i < o.length) : swpS N o (i + 1) = (swpS N o i).set i true ∧ (swpS N o (i + 1) == o) = false := by
  have hl := swpS_len N o i
  have hb := (swpS_ble N o i).2 i
  rw [swpS]
  generalize swpS N o i = p at *
  rw [Bool.and_eq_true] at h
  have e : swp1 N p i = p.set i true := by unfold swp1; rw [if_pos h.2]
  refine ⟨e, ?_⟩
  rw [e, beq_eq_false_iff_ne]
  intro q
  have h1 := h.1
  have : o.getD i false = true := by
    rw [← q]; simp [List.getD, List.getElem?_set, show i < p.length by omega]
  rw [hb this] at h1
  cases h1
set_option maxRecDepth 20000 in
set_option maxHeartbeats 16000000 in
theorem c_MLive {L k : Nat} {N : List (List Int)} (h : NOk L k N) (st : Nat) (hst : st < k) (F : List Bool) (hF : F.length = k) (hL : L ≤ 100000) (hk : 1 ≤ k ∧ k ≤ 2000) :
    Contract Try.prog 22 [dfaD L st F N] (.sl false (bos (liveL F N))) [] := by
  refine contract_of_awp (rs := [2]) Try.func22 rfl Try.ntmps22 (by simp) rfl fun E => ?_
  have hl := h.len
  (repeat (first | refine awp_seq ?_ | refine awp_block ?_ | ((first | refine awp_skip ?_ | refine awp_exit ?_ | refine awp_reg ttok ?_ | (refine awp_draw ttok ?dr_calm ?_; (case dr_calm => decide +kernel)) | refine awp_condM ?_); simp (maxSteps := 4000000) only [↓reduceIte, Nat.reduceLT, Nat.reduceEqDiff, reduceCtorEq, Nat.reduceAdd, Nat.reduceMul, Int.reduceLE, Int.reduceLT, Int.reduceToNat, Nat.reduceLeDiff, Nat.reduceSub, Int.reduceEq, Nat.reduceBEq, evB, tyA, dfaD]; (repeat (with_reducible refine And.intro ?_ ?_; exact sdX)); (with_reducible first | refine awp_id ?_ | refine id_call ?_ | refine id_and ?_ | refine id_ex ?_ | refine id_all ?_ | refine id_nat ?_ | refine id_le ?_))))
  refine callVC_scal fnok20 (c_May h st hst F hF hL hk) rfl ?_
  simp (maxSteps := 4000000) only [↓reduceIte, Nat.reduceLT, Nat.reduceEqDiff, reduceCtorEq, Nat.reduceAdd, Nat.reduceMul, Int.reduceLE, Int.reduceLT, Int.reduceToNat, Nat.reduceLeDiff, Nat.reduceSub, Int.reduceEq, Nat.reduceBEq, evB, tyA]
  (repeat (with_reducible refine And.intro ?_ ?_; exact sdX))
  (repeat (first | refine awp_seq ?_ | refine awp_block ?_ | ((first | refine awp_skip ?_ | refine awp_exit ?_ | refine awp_reg ttok ?_ | (refine awp_draw ttok ?dr_calm ?_; (case dr_calm => decide +kernel)) | refine awp_condM ?_); simp (maxSteps := 4000000) only [↓reduceIte, Nat.reduceLT, Nat.reduceEqDiff, reduceCtorEq, Nat.reduceAdd, Nat.reduceMul, Int.reduceLE, Int.reduceLT, Int.reduceToNat, Nat.reduceLeDiff, Nat.reduceSub, Int.reduceEq, Nat.reduceBEq, evB, tyA]; (repeat (with_reducible refine And.intro ?_ ?_; exact sdX)); (with_reducible first | refine awp_id ?_ | refine id_call ?_ | refine id_and ?_ | refine id_ex ?_ | refine id_all ?_ | refine id_nat ?_ | refine id_le ?_))))
  have hne : F ≠ [] := by rintro rfl; simp at hF; omega
  refine callVC_mk fnok29 (c_CloneBo false F (by omega) hne) rfl ?_
  simp (maxSteps := 4000000) only [↓reduceIte, Nat.reduceLT, Nat.reduceEqDiff, reduceCtorEq, Nat.reduceAdd, Nat.reduceMul, Int.reduceLE, Int.reduceLT, Int.reduceToNat, Nat.reduceLeDiff, Nat.reduceSub, Int.reduceEq, Nat.reduceBEq, evB, tyA, hF]
  (repeat (with_reducible refine And.intro ?_ ?_; exact sdX))
  (repeat (first | refine awp_seq ?_ | refine awp_block ?_ | ((first | refine awp_skip ?_ | refine awp_exit ?_ | refine awp_reg ttok ?_ | (refine awp_draw ttok ?dr_calm ?_; (case dr_calm => decide +kernel)) | refine awp_condM ?_); simp (maxSteps := 4000000) only [↓reduceIte, Nat.reduceLT, Nat.reduceEqDiff, reduceCtorEq, Nat.reduceAdd, Nat.reduceMul, Int.reduceLE, Int.reduceLT, Int.reduceToNat, Nat.reduceLeDiff, Nat.reduceSub, Int.reduceEq, Nat.reduceBEq, evB, tyA]; (repeat (with_reducible refine And.intro ?_ ?_; exact sdX)); (with_reducible first | refine awp_id ?_ | refine id_call ?_ | refine id_and ?_ | refine id_ex ?_ | refine id_all ?_ | refine id_nat ?_ | refine id_le ?_))))
  refine awp_loop (X := Nat × Bool) (fun x => mkS 37 [(1, .ptr 1000 0 0), (3, .ptr 4003 0 0), (4, bo x.2)] [(1000, { sz := 4, rows := [[i64 L, i64 st, .sl false (bos F), .sl false (iis N)]], flat := false }), (4003, { sz := 1, rows := [[.own 104002 0 k]], flat := false }), (104002, { sz := 1, rows := bos (swpI N F x.1) })])
    (fun x => x.2 = false → swp N (swpI N F x.1) = swpI N F x.1) (fun x => 2 * (k - (swpI N F x.1).count true) + x.2.toNat) (0, true) (by simp) (mkS_le rfl ?_ ?_) ?_
  · simp (maxSteps := 4000000) only [↓reduceIte, Nat.reduceLT, Nat.reduceEqDiff, reduceCtorEq, Nat.reduceAdd, Nat.reduceMul, Int.reduceLE, Int.reduceLT, Int.reduceToNat, Nat.reduceLeDiff, Nat.reduceSub, Int.reduceEq, Nat.reduceBEq, evB]
    try rfl
  · simp (maxSteps := 4000000) only [↓reduceIte, Nat.reduceLT, Nat.reduceEqDiff, reduceCtorEq, Nat.reduceAdd, Nat.reduceMul, Int.reduceLE, Int.reduceLT, Int.reduceToNat, Nat.reduceLeDiff, Nat.reduceSub, Int.reduceEq, Nat.reduceBEq, evB, swpI]
    try rfl
  · rintro ⟨r, more⟩ hinv
    simp only at hinv ⊢
    have hoL := swpI_len N F r
    have hob := swp_ble N (swpI N F r)
    have hnx : swpI N F (r + 1) = swp N (swpI N F r) := rfl
    cases more
    · have hfin := liveL_of (hinv rfl)
      (repeat (first | refine awp_seq ?_ | refine awp_block ?_ | ((first | refine awp_skip ?_ | refine awp_exit ?_ | refine awp_reg ttok ?_ | (refine awp_draw ttok ?dr_calm ?_; (case dr_calm => decide +kernel)) | refine awp_condM ?_); simp (maxSteps := 4000000) only [↓reduceIte, Nat.reduceLT, Nat.reduceEqDiff, reduceCtorEq, Nat.reduceAdd, Nat.reduceMul, Int.reduceLE, Int.reduceLT, Int.reduceToNat, Nat.reduceLeDiff, Nat.reduceSub, Int.reduceEq, Nat.reduceBEq, evB, tyA]; (repeat (with_reducible refine And.intro ?_ ?_; exact sdX)); (with_reducible first | refine awp_id ?_ | refine id_call ?_ | refine id_and ?_ | refine id_ex ?_ | refine id_all ?_ | refine id_nat ?_ | refine id_le ?_))))
      rw [hfin] at hoL ⊢
      have htk : List.take k (liveL F N) = liveL F N := List.take_of_length_le (by omega)
      refine awp_pure 2 (d := .own 104002 0 k) evX (by simp (maxSteps := 4000000) only [↓reduceIte, Nat.reduceLT, Nat.reduceEqDiff, reduceCtorEq, Nat.reduceAdd, Nat.reduceMul, Int.reduceLE, Int.reduceLT, Int.reduceToNat, Nat.reduceLeDiff, Nat.reduceSub, Int.reduceEq, Nat.reduceBEq, evB]; rfl) (by simp (maxSteps := 4000000) only [↓reduceIte, Nat.reduceLT, Nat.reduceEqDiff, reduceCtorEq, Nat.reduceAdd, Nat.reduceMul, Int.reduceLE, Int.reduceLT, Int.reduceToNat, Nat.reduceLeDiff, Nat.reduceSub, Int.reduceEq, Nat.reduceBEq, evB, bos_len, hoL, hF]) ?_
      refine awp_ret (ends_plain (.inr rfl) rfl ?_)
      simp (maxSteps := 4000000) only [↓reduceIte, Nat.reduceLT, Nat.reduceEqDiff, reduceCtorEq, Nat.reduceAdd, Nat.reduceMul, Int.reduceLE, Int.reduceLT, Int.reduceToNat, Nat.reduceLeDiff, Nat.reduceSub, Int.reduceEq, Nat.reduceBEq, evB, bos_take, htk]
    · generalize ho : swpI N F r = o at *
      (repeat (first | refine awp_seq ?_ | refine awp_block ?_ | ((first | refine awp_skip ?_ | refine awp_exit ?_ | refine awp_reg ttok ?_ | (refine awp_draw ttok ?dr_calm ?_; (case dr_calm => decide +kernel)) | refine awp_condM ?_); simp (maxSteps := 4000000) only [↓reduceIte, Nat.reduceLT, Nat.reduceEqDiff, reduceCtorEq, Nat.reduceAdd, Nat.reduceMul, Int.reduceLE, Int.reduceLT, Int.reduceToNat, Nat.reduceLeDiff, Nat.reduceSub, Int.reduceEq, Nat.reduceBEq, evB, tyA, iis_len, hl]; (repeat (with_reducible refine And.intro ?_ ?_; exact sdX)); (with_reducible first | refine awp_id ?_ | refine id_call ?_ | refine id_and ?_ | refine id_ex ?_ | refine id_all ?_ | refine id_nat ?_ | refine id_le ?_))))
      refine awp_loop (X := Nat) (fun i => mkS 37 [(1, .ptr 1000 0 0), (3, .ptr 4003 0 0), (4, bo (!(swpS N o i == o))), (15, .sl false (iis N)), (16, i64 k), (17, i64 i)] [(1000, { sz := 4, rows := [[i64 L, i64 st, .sl false (bos F), .sl false (iis N)]], flat := false }), (4003, { sz := 1, rows := [[.own 104002 0 k]], flat := false }), (104002, { sz := 1, rows := bos (swpS N o i) })]) (fun i => i ≤ k) (fun i => k - i) 0 (Nat.zero_le _) (mkS_le rfl ?_ ?_) ?_
      · simp (maxSteps := 4000000) only [↓reduceIte, Nat.reduceLT, Nat.reduceEqDiff, reduceCtorEq, Nat.reduceAdd, Nat.reduceMul, Int.reduceLE, Int.reduceLT, Int.reduceToNat, Nat.reduceLeDiff, Nat.reduceSub, Int.reduceEq, Nat.reduceBEq, evB, swpS, beq_self_eq_true, Bool.not_true]
        try rfl
      · simp (maxSteps := 4000000) only [↓reduceIte, Nat.reduceLT, Nat.reduceEqDiff, reduceCtorEq, Nat.reduceAdd, Nat.reduceMul, Int.reduceLE, Int.reduceLT, Int.reduceToNat, Nat.reduceLeDiff, Nat.reduceSub, Int.reduceEq, Nat.reduceBEq, evB, swpS]
        try rfl
      · intro i hi
        by_cases hlt : i < k
        · have d1 : decide ((i : Int) < (k : Int)) = true := by simpa using hlt
          have hwi : IntKind.i64.wrap ((i : Int) + 1) = ((i + 1 : Nat) : Int) := i64_in (by omega) (by omega)
          have hgi := iis_get (l := N) (i := i) (by omega)
          have hrow := h.get hlt
          have hsame := swp_same (N := N) (o := o) (i := i)
          have hturn := swp_turn (N := N) (o := o) (i := i)
          have hpL := swpS_len N o i
          generalize swpS N o i = p at *
          have hgb := bos_get (l := p) (i := i) (by omega)
          have htk : List.take k p = p := List.take_of_length_le (by omega)
          have hct := c_CtI 30 [.sl false (bos p)] fnok30 (fun s => decide (s ≥ 0) && p.getD s.toNat false) false (N.getD i []) (by omega) (fun x hx => c_Live1 p x (by have := hrow.2 x hx; omega))
          generalize hA : ((N.getD i []).any fun s => decide (s ≥ 0) && p.getD s.toNat false) = A at *
          cases hq : p.getD i false
          · rw [hq] at hgb
            rw [hq] at hsame hturn
            rw [Bool.not_false, Bool.true_and] at hsame hturn
            (repeat (first | refine awp_seq ?_ | refine awp_block ?_ | ((first | refine awp_skip ?_ | refine awp_exit ?_ | refine awp_reg ttok ?_ | (refine awp_draw ttok ?dr_calm ?_; (case dr_calm => decide +kernel)) | refine awp_condM ?_); simp (maxSteps := 4000000) only [↓reduceIte, Nat.reduceLT, Nat.reduceEqDiff, reduceCtorEq, Nat.reduceAdd, Nat.reduceMul, Int.reduceLE, Int.reduceLT, Int.reduceToNat, Nat.reduceLeDiff, Nat.reduceSub, Int.reduceEq, Nat.reduceBEq, evB, tyA, d1, hgi, iis_len, hl, bos_len, hpL, hoL, hF, hgb, bos_take, htk]; (repeat (with_reducible refine And.intro ?_ ?_; exact sdX)); (with_reducible first | refine awp_id ?_ | refine id_call ?_ | refine id_and ?_ | refine id_ex ?_ | refine id_all ?_ | refine id_nat ?_ | refine id_le ?_))))
            refine callVC_scal fnok23 hct rfl ?_
            simp (maxSteps := 4000000) only [↓reduceIte, Nat.reduceLT, Nat.reduceEqDiff, reduceCtorEq, Nat.reduceAdd, Nat.reduceMul, Int.reduceLE, Int.reduceLT, Int.reduceToNat, Nat.reduceLeDiff, Nat.reduceSub, Int.reduceEq, Nat.reduceBEq, evB, tyA, bos_take, htk]
            (repeat (with_reducible refine And.intro ?_ ?_; exact sdX))
            cases A
            · (repeat (first | refine awp_seq ?_ | refine awp_block ?_ | ((first | refine awp_skip ?_ | refine awp_exit ?_ | refine awp_reg ttok ?_ | (refine awp_draw ttok ?dr_calm ?_; (case dr_calm => decide +kernel)) | refine awp_condM ?_); simp (maxSteps := 4000000) only [↓reduceIte, Nat.reduceLT, Nat.reduceEqDiff, reduceCtorEq, Nat.reduceAdd, Nat.reduceMul, Int.reduceLE, Int.reduceLT, Int.reduceToNat, Nat.reduceLeDiff, Nat.reduceSub, Int.reduceEq, Nat.reduceBEq, evB, tyA, hwi]; (repeat (with_reducible refine And.intro ?_ ?_; exact sdX)); (with_reducible first | refine awp_id ?_ | refine id_call ?_ | refine id_and ?_ | refine id_ex ?_ | refine id_all ?_ | refine id_nat ?_ | refine id_le ?_))))
              refine ⟨i + 1, by omega, by omega, mkS_le rfl ?_ ?_⟩
              · simp (maxSteps := 4000000) only [↓reduceIte, Nat.reduceLT, Nat.reduceEqDiff, reduceCtorEq, Nat.reduceAdd, Nat.reduceMul, Int.reduceLE, Int.reduceLT, Int.reduceToNat, Nat.reduceLeDiff, Nat.reduceSub, Int.reduceEq, Nat.reduceBEq, evB, hsame rfl (by omega)]
              · simp (maxSteps := 4000000) only [↓reduceIte, Nat.reduceLT, Nat.reduceEqDiff, reduceCtorEq, Nat.reduceAdd, Nat.reduceMul, Int.reduceLE, Int.reduceLT, Int.reduceToNat, Nat.reduceLeDiff, Nat.reduceSub, Int.reduceEq, Nat.reduceBEq, evB, hsame rfl (by omega)]
            · have ht := hturn rfl (by omega)
              (repeat (first | refine awp_seq ?_ | refine awp_block ?_ | ((first | refine awp_skip ?_ | refine awp_exit ?_ | refine awp_reg ttok ?_ | (refine awp_draw ttok ?dr_calm ?_; (case dr_calm => decide +kernel)) | refine awp_condM ?_); simp (maxSteps := 4000000) only [↓reduceIte, Nat.reduceLT, Nat.reduceEqDiff, reduceCtorEq, Nat.reduceAdd, Nat.reduceMul, Int.reduceLE, Int.reduceLT, Int.reduceToNat, Nat.reduceLeDiff, Nat.reduceSub, Int.reduceEq, Nat.reduceBEq, evB, tyA, hwi, bos_len, hpL, hoL, hF]; (repeat (with_reducible refine And.intro ?_ ?_; exact sdX)); (with_reducible first | refine awp_id ?_ | refine id_call ?_ | refine id_and ?_ | refine id_ex ?_ | refine id_all ?_ | refine id_nat ?_ | refine id_le ?_))))
              refine ⟨i + 1, by omega, by omega, mkS_le rfl ?_ ?_⟩
              · simp (maxSteps := 4000000) only [↓reduceIte, Nat.reduceLT, Nat.reduceEqDiff, reduceCtorEq, Nat.reduceAdd, Nat.reduceMul, Int.reduceLE, Int.reduceLT, Int.reduceToNat, Nat.reduceLeDiff, Nat.reduceSub, Int.reduceEq, Nat.reduceBEq, evB, ht.2]
                try rfl
              · have hse : (bos p).set i [D.v (Value.bool true)] = bos (p.set i true) := bos_set p i true
                simp (maxSteps := 4000000) only [↓reduceIte, Nat.reduceLT, Nat.reduceEqDiff, reduceCtorEq, Nat.reduceAdd, Nat.reduceMul, Int.reduceLE, Int.reduceLT, Int.reduceToNat, Nat.reduceLeDiff, Nat.reduceSub, Int.reduceEq, Nat.reduceBEq, evB, ht.1, hgb, hse]
          · rw [hq] at hgb
            rw [hq, Bool.not_true, Bool.false_and] at hsame
            (repeat (first | refine awp_seq ?_ | refine awp_block ?_ | ((first | refine awp_skip ?_ | refine awp_exit ?_ | refine awp_reg ttok ?_ | (refine awp_draw ttok ?dr_calm ?_; (case dr_calm => decide +kernel)) | refine awp_condM ?_); simp (maxSteps := 4000000) only [↓reduceIte, Nat.reduceLT, Nat.reduceEqDiff, reduceCtorEq, Nat.reduceAdd, Nat.reduceMul, Int.reduceLE, Int.reduceLT, Int.reduceToNat, Nat.reduceLeDiff, Nat.reduceSub, Int.reduceEq, Nat.reduceBEq, evB, tyA, d1, hgi, iis_len, hl, bos_len, hpL, hoL, hF, hgb, hwi]; (repeat (with_reducible refine And.intro ?_ ?_; exact sdX)); (with_reducible first | refine awp_id ?_ | refine id_call ?_ | refine id_and ?_ | refine id_ex ?_ | refine id_all ?_ | refine id_nat ?_ | refine id_le ?_))))
            refine ⟨i + 1, by omega, by omega, mkS_le rfl ?_ ?_⟩
            · simp (maxSteps := 4000000) only [↓reduceIte, Nat.reduceLT, Nat.reduceEqDiff, reduceCtorEq, Nat.reduceAdd, Nat.reduceMul, Int.reduceLE, Int.reduceLT, Int.reduceToNat, Nat.reduceLeDiff, Nat.reduceSub, Int.reduceEq, Nat.reduceBEq, evB, hsame rfl (by omega)]
            · simp (maxSteps := 4000000) only [↓reduceIte, Nat.reduceLT, Nat.reduceEqDiff, reduceCtorEq, Nat.reduceAdd, Nat.reduceMul, Int.reduceLE, Int.reduceLT, Int.reduceToNat, Nat.reduceLeDiff, Nat.reduceSub, Int.reduceEq, Nat.reduceBEq, evB, hsame rfl (by omega)]
        · have d1 : decide ((i : Int) < (k : Int)) = false := by simpa using hlt
          obtain rfl : i = k := by omega
          have he : swpS N o i = swp N o := by rw [swp, hl]
          have hcb := ble_count hob
          have hcl := List.count_le_length (a := true) (l := swp N o)
          rw [swp_len] at hcl
          (repeat (first | refine awp_seq ?_ | refine awp_block ?_ | ((first | refine awp_skip ?_ | refine awp_exit ?_ | refine awp_reg ttok ?_ | (refine awp_draw ttok ?dr_calm ?_; (case dr_calm => decide +kernel)) | refine awp_condM ?_); simp (maxSteps := 4000000) only [↓reduceIte, Nat.reduceLT, Nat.reduceEqDiff, reduceCtorEq, Nat.reduceAdd, Nat.reduceMul, Int.reduceLE, Int.reduceLT, Int.reduceToNat, Nat.reduceLeDiff, Nat.reduceSub, Int.reduceEq, Nat.reduceBEq, evB, tyA, d1]; (repeat (with_reducible refine And.intro ?_ ?_; exact sdX)); (with_reducible first | refine awp_id ?_ | refine id_call ?_ | refine id_and ?_ | refine id_ex ?_ | refine id_all ?_ | refine id_nat ?_ | refine id_le ?_))))
          refine ⟨(r + 1, !(swpS N o i == o)), ?_, ?_, mkS_le rfl ?_ ?_⟩
          · intro hm
            rw [Bool.not_eq_false', beq_iff_eq, he] at hm
            rw [hnx, hm, hm]
          · simp only [he, hnx, ho]
            cases hq : (swp N o == o)
            · have hne : swp N o ≠ o := by rwa [beq_eq_false_iff_ne] at hq
              have : o.count true ≠ (swp N o).count true := fun e => hne (hcb.2 e).symm
              simp only [Bool.not_false, Bool.toNat_true]
              omega
            · rw [beq_iff_eq] at hq
              rw [hq]
              simp
          · exact evX
          · simp (maxSteps := 4000000) only [↓reduceIte, Nat.reduceLT, Nat.reduceEqDiff, reduceCtorEq, Nat.reduceAdd, Nat.reduceMul, Int.reduceLE, Int.reduceLT, Int.reduceToNat, Nat.reduceLeDiff, Nat.reduceSub, Int.reduceEq, Nat.reduceBEq, evB, he, hnx]
theorem and_low (c : Int) (m : Nat) (hm : m ≤ 65535) : ∃ C : Nat, C ≤ m ∧ IntKind.i64.wrap ((BitVec.ofInt IntKind.i64.bits c &&& BitVec.ofInt IntKind.i64.bits (m : Int)).toNat : Int) = (C : Int) := by
  refine ⟨(BitVec.ofInt IntKind.i64.bits c &&& BitVec.ofInt IntKind.i64.bits (m : Int)).toNat, ?_, ?_⟩
  all_goals
    have h1 : (BitVec.ofInt IntKind.i64.bits c &&& BitVec.ofInt IntKind.i64.bits (m : Int)).toNat ≤ m := by
      rw [BitVec.toNat_and]
      refine Nat.le_trans Nat.and_le_right ?_
      simp only [BitVec.toNat_ofInt]
      have : ((m : Int) % ((2 ^ IntKind.i64.bits : Nat) : Int)).toNat = m % 2 ^ IntKind.i64.bits := by
        rw [← Int.natCast_emod]; rfl
      rw [this]
      exact Nat.mod_le _ _
  · exact h1
  · exact i64_in (by omega) (by omega)
set_option maxHeartbeats 1600000 in
theorem c_CloneI (full : Bool) (l : List Int) (hl : l.length * 8 ≤ 140737488355328) : Contract Try.prog 28 [.sl full (ints l)] (.own 0 0 l.length) [{ sz := 1, rows := ints l }] := by
  refine contract_of_awp (rs := [2]) Try.func28 rfl Try.ntmps28 (by simp) rfl fun E => ?_
  (repeat (first | refine awp_seq ?_ | refine awp_block ?_ | ((first | refine awp_skip ?_ | refine awp_exit ?_ | refine awp_reg ttok ?_ | (refine awp_draw ttok ?dr_calm ?_; (case dr_calm => decide +kernel)) | refine awp_condM ?_); simp (maxSteps := 4000000) only [↓reduceIte, Nat.reduceLT, Nat.reduceEqDiff, reduceCtorEq, Nat.reduceAdd, Nat.reduceMul, Int.reduceLE, Int.reduceLT, Int.reduceToNat, Nat.reduceLeDiff, Nat.reduceSub, Int.reduceEq, Nat.reduceBEq, evB, tyA]; (repeat (with_reducible refine And.intro ?_ ?_; exact sdX)); (with_reducible first | refine awp_id ?_ | refine id_call ?_ | refine id_and ?_ | refine id_ex ?_ | refine id_all ?_ | refine id_nat ?_ | refine id_le ?_))))
  intro b hb
  refine awp_cond (t := (b != false)) ?_ (fun h => ?_) (fun h => ?_)
  · exact evX
  · have hl0 : l = [] := by
      have := hb (by simpa using h)
      simpa [ints] using this
    subst hl0
    (repeat (first | refine awp_seq ?_ | refine awp_block ?_ | ((first | refine awp_skip ?_ | refine awp_exit ?_ | refine awp_reg ttok ?_ | (refine awp_draw ttok ?dr_calm ?_; (case dr_calm => decide +kernel)) | refine awp_condM ?_); simp (maxSteps := 4000000) only [↓reduceIte, Nat.reduceLT, Nat.reduceEqDiff, reduceCtorEq, Nat.reduceAdd, Nat.reduceMul, Int.reduceLE, Int.reduceLT, Int.reduceToNat, Nat.reduceLeDiff, Nat.reduceSub, Int.reduceEq, Nat.reduceBEq, evB, tyA]; (repeat (with_reducible refine And.intro ?_ ?_; exact sdX)); (with_reducible first | refine awp_id ?_ | refine id_call ?_ | refine id_and ?_ | refine id_ex ?_ | refine id_all ?_ | refine id_nat ?_ | refine id_le ?_))))
    refine awp_own_nil 2 9000 1 ?_ (by decide) (awp_ret ?_)
    · exact evX
    · exact ends_own (g := 9000) (.inr rfl) (by simp (maxSteps := 4000000) only [↓reduceIte, Nat.reduceLT, Nat.reduceEqDiff, reduceCtorEq, Nat.reduceAdd, Nat.reduceMul, Int.reduceLE, Int.reduceLT, Int.reduceToNat, Nat.reduceLeDiff, Nat.reduceSub, Int.reduceEq, Nat.reduceBEq, evB, St.toOwn]) (by simp (maxSteps := 4000000) only [↓reduceIte, Nat.reduceLT, Nat.reduceEqDiff, reduceCtorEq, Nat.reduceAdd, Nat.reduceMul, Int.reduceLE, Int.reduceLT, Int.reduceToNat, Nat.reduceLeDiff, Nat.reduceSub, Int.reduceEq, Nat.reduceBEq, evB, St.toOwn, ints]) rfl
  · (repeat (first | refine awp_seq ?_ | refine awp_block ?_ | ((first | refine awp_skip ?_ | refine awp_exit ?_ | refine awp_reg ttok ?_ | (refine awp_draw ttok ?dr_calm ?_; (case dr_calm => decide +kernel)) | refine awp_condM ?_); simp (maxSteps := 4000000) only [↓reduceIte, Nat.reduceLT, Nat.reduceEqDiff, reduceCtorEq, Nat.reduceAdd, Nat.reduceMul, Int.reduceLE, Int.reduceLT, Int.reduceToNat, Nat.reduceLeDiff, Nat.reduceSub, Int.reduceEq, Nat.reduceBEq, evB, tyA]; (repeat (with_reducible refine And.intro ?_ ?_; exact sdX)); (with_reducible first | refine awp_id ?_ | refine id_call ?_ | refine id_and ?_ | refine id_ex ?_ | refine id_all ?_ | refine id_nat ?_ | refine id_le ?_))))
    exact awp_ret (ends_own (g := 4000) (.inr rfl) evX evX rfl)
set_option maxHeartbeats 1600000 in
theorem c_Same (f g : Bool) (l m : List Int) (hl : l.length ≤ 9223372036854775807) : Contract Try.prog 12 [.sl f (ints l), .sl g (ints m)] (bo (l == m)) [] := by
  refine contract_of_awp (rs := [4]) Try.func12 rfl Try.ntmps12 (by simp) rfl fun E => ?_
  (repeat (first | refine awp_seq ?_ | refine awp_block ?_ | ((first | refine awp_skip ?_ | refine awp_exit ?_ | refine awp_reg ttok ?_ | (refine awp_draw ttok ?dr_calm ?_; (case dr_calm => decide +kernel)) | refine awp_condM ?_); simp (maxSteps := 4000000) only [↓reduceIte, Nat.reduceLT, Nat.reduceEqDiff, reduceCtorEq, Nat.reduceAdd, Nat.reduceMul, Int.reduceLE, Int.reduceLT, Int.reduceToNat, Nat.reduceLeDiff, Nat.reduceSub, Int.reduceEq, Nat.reduceBEq, evB, tyA]; (repeat (with_reducible refine And.intro ?_ ?_; exact sdX)); (with_reducible first | refine awp_id ?_ | refine id_call ?_ | refine id_and ?_ | refine id_ex ?_ | refine id_all ?_ | refine id_nat ?_ | refine id_le ?_))))
  refine awp_cond (t := ((l.length : Int) != (m.length : Int))) evX (fun h => ?_) (fun h => ?_)
  · (repeat (first | refine awp_seq ?_ | refine awp_block ?_ | ((first | refine awp_skip ?_ | refine awp_exit ?_ | refine awp_reg ttok ?_ | (refine awp_draw ttok ?dr_calm ?_; (case dr_calm => decide +kernel)) | refine awp_condM ?_); simp (maxSteps := 4000000) only [↓reduceIte, Nat.reduceLT, Nat.reduceEqDiff, reduceCtorEq, Nat.reduceAdd, Nat.reduceMul, Int.reduceLE, Int.reduceLT, Int.reduceToNat, Nat.reduceLeDiff, Nat.reduceSub, Int.reduceEq, Nat.reduceBEq, evB, tyA]; (repeat (with_reducible refine And.intro ?_ ?_; exact sdX)); (with_reducible first | refine awp_id ?_ | refine id_call ?_ | refine id_and ?_ | refine id_ex ?_ | refine id_all ?_ | refine id_nat ?_ | refine id_le ?_))))
    have hne : l ≠ m := by rintro rfl; simp at h
    have hv : (l == m) = false := by simpa using hne
    rw [hv]
    exact awp_ret (ends_plain (.inr rfl) rfl evX)
  · have hlm : l.length = m.length := by simp at h; omega
    (repeat (first | refine awp_seq ?_ | refine awp_block ?_ | ((first | refine awp_skip ?_ | refine awp_exit ?_ | refine awp_reg ttok ?_ | (refine awp_draw ttok ?dr_calm ?_; (case dr_calm => decide +kernel)) | refine awp_condM ?_); simp (maxSteps := 4000000) only [↓reduceIte, Nat.reduceLT, Nat.reduceEqDiff, reduceCtorEq, Nat.reduceAdd, Nat.reduceMul, Int.reduceLE, Int.reduceLT, Int.reduceToNat, Nat.reduceLeDiff, Nat.reduceSub, Int.reduceEq, Nat.reduceBEq, evB, tyA]; (repeat (with_reducible refine And.intro ?_ ?_; exact sdX)); (with_reducible first | refine awp_id ?_ | refine id_call ?_ | refine id_and ?_ | refine id_ex ?_ | refine id_all ?_ | refine id_nat ?_ | refine id_le ?_))))
    refine awp_loop (X := Nat) (fun k => mkS 26 [(0, .sl f (ints l)), (1, .sl g (ints m)), (5, i64 k)] []) (fun k => k ≤ l.length ∧ l.take k = m.take k) (fun k => l.length - k) 0 ⟨by omega, by simp⟩ (mkS_le rfl ?_ trivial) ?_
    · simp (maxSteps := 4000000) only [↓reduceIte, Nat.reduceLT, Nat.reduceEqDiff, reduceCtorEq, Nat.reduceAdd, Nat.reduceMul, Int.reduceLE, Int.reduceLT, Int.reduceToNat, Nat.reduceLeDiff, Nat.reduceSub, Int.reduceEq, Nat.reduceBEq, evB]
      rfl
    · intro k ⟨hk, htk⟩
      (repeat (first | refine awp_seq ?_ | refine awp_block ?_ | ((first | refine awp_skip ?_ | refine awp_exit ?_ | refine awp_reg ttok ?_ | (refine awp_draw ttok ?dr_calm ?_; (case dr_calm => decide +kernel)) | refine awp_condM ?_); simp (maxSteps := 4000000) only [↓reduceIte, Nat.reduceLT, Nat.reduceEqDiff, reduceCtorEq, Nat.reduceAdd, Nat.reduceMul, Int.reduceLE, Int.reduceLT, Int.reduceToNat, Nat.reduceLeDiff, Nat.reduceSub, Int.reduceEq, Nat.reduceBEq, evB, tyA]; (repeat (with_reducible refine And.intro ?_ ?_; exact sdX)); (with_reducible first | refine awp_id ?_ | refine id_call ?_ | refine id_and ?_ | refine id_ex ?_ | refine id_all ?_ | refine id_nat ?_ | refine id_le ?_))))
      refine awp_cond (t := decide ((k : Int) < (l.length : Int))) evX (fun h => ?_) (fun h => ?_)
      · simp only [decide_eq_true_eq] at h
        have hk' : k < l.length := by omega
        have g1 := ints_get hk'
        have g2 := ints_get (l := m) (i := k) (by omega)
        have hw : IntKind.i64.wrap ((k : Int) + 1) = ((k + 1 : Nat) : Int) := i64_in (by omega) (by omega)
        (repeat (first | refine awp_seq ?_ | refine awp_block ?_ | ((first | refine awp_skip ?_ | refine awp_exit ?_ | refine awp_reg ttok ?_ | (refine awp_draw ttok ?dr_calm ?_; (case dr_calm => decide +kernel)) | refine awp_condM ?_); simp (maxSteps := 4000000) only [↓reduceIte, Nat.reduceLT, Nat.reduceEqDiff, reduceCtorEq, Nat.reduceAdd, Nat.reduceMul, Int.reduceLE, Int.reduceLT, Int.reduceToNat, Nat.reduceLeDiff, Nat.reduceSub, Int.reduceEq, Nat.reduceBEq, evB, tyA, g1, g2]; (repeat (with_reducible refine And.intro ?_ ?_; exact sdX)); (with_reducible first | refine awp_id ?_ | refine id_call ?_ | refine id_and ?_ | refine id_ex ?_ | refine id_all ?_ | refine id_nat ?_ | refine id_le ?_))))
        refine awp_cond (t := (l.getD k 0 != m.getD k 0)) evX (fun h2 => ?_) (fun h2 => ?_)
        · (repeat (first | refine awp_seq ?_ | refine awp_block ?_ | ((first | refine awp_skip ?_ | refine awp_exit ?_ | refine awp_reg ttok ?_ | (refine awp_draw ttok ?dr_calm ?_; (case dr_calm => decide +kernel)) | refine awp_condM ?_); simp (maxSteps := 4000000) only [↓reduceIte, Nat.reduceLT, Nat.reduceEqDiff, reduceCtorEq, Nat.reduceAdd, Nat.reduceMul, Int.reduceLE, Int.reduceLT, Int.reduceToNat, Nat.reduceLeDiff, Nat.reduceSub, Int.reduceEq, Nat.reduceBEq, evB, tyA]; (repeat (with_reducible refine And.intro ?_ ?_; exact sdX)); (with_reducible first | refine awp_id ?_ | refine id_call ?_ | refine id_and ?_ | refine id_ex ?_ | refine id_all ?_ | refine id_nat ?_ | refine id_le ?_))))
          have hne : l ≠ m := by rintro rfl; simp at h2
          have hv : (l == m) = false := by simpa using hne
          rw [hv]
          exact awp_ret (ends_plain (.inr rfl) rfl evX)
        · (repeat (first | refine awp_seq ?_ | refine awp_block ?_ | ((first | refine awp_skip ?_ | refine awp_exit ?_ | refine awp_reg ttok ?_ | (refine awp_draw ttok ?dr_calm ?_; (case dr_calm => decide +kernel)) | refine awp_condM ?_); simp (maxSteps := 4000000) only [↓reduceIte, Nat.reduceLT, Nat.reduceEqDiff, reduceCtorEq, Nat.reduceAdd, Nat.reduceMul, Int.reduceLE, Int.reduceLT, Int.reduceToNat, Nat.reduceLeDiff, Nat.reduceSub, Int.reduceEq, Nat.reduceBEq, evB, tyA, hw]; (repeat (with_reducible refine And.intro ?_ ?_; exact sdX)); (with_reducible first | refine awp_id ?_ | refine id_call ?_ | refine id_and ?_ | refine id_ex ?_ | refine id_all ?_ | refine id_nat ?_ | refine id_le ?_))))
          refine ⟨k + 1, ⟨by omega, ?_⟩, by omega, mkS_le rfl ?_ trivial⟩
          · have h3 : l.getD k 0 = m.getD k 0 := by simpa using h2
            have e1 : l[k]? = some (l.getD k 0) := by simp [List.getD, List.getElem?_eq_getElem hk']
            have e2 : m[k]? = some (m.getD k 0) := by simp [List.getD, List.getElem?_eq_getElem (show k < m.length by omega)]
            rw [List.take_add_one, List.take_add_one, htk, e1, e2, h3]
          · exact evX
      · simp only [decide_eq_false_iff_not] at h
        have hkl : k = l.length := by omega
        (repeat (first | refine awp_seq ?_ | refine awp_block ?_ | ((first | refine awp_skip ?_ | refine awp_exit ?_ | refine awp_reg ttok ?_ | (refine awp_draw ttok ?dr_calm ?_; (case dr_calm => decide +kernel)) | refine awp_condM ?_); simp (maxSteps := 4000000) only [↓reduceIte, Nat.reduceLT, Nat.reduceEqDiff, reduceCtorEq, Nat.reduceAdd, Nat.reduceMul, Int.reduceLE, Int.reduceLT, Int.reduceToNat, Nat.reduceLeDiff, Nat.reduceSub, Int.reduceEq, Nat.reduceBEq, evB, tyA]; (repeat (with_reducible refine And.intro ?_ ?_; exact sdX)); (with_reducible first | refine awp_id ?_ | refine id_call ?_ | refine id_and ?_ | refine id_ex ?_ | refine id_all ?_ | refine id_nat ?_ | refine id_le ?_))))
        have hv : (l == m) = true := by
          rw [hkl, List.take_of_length_le (by omega), List.take_of_length_le (by omega)] at htk
          simpa using htk
        rw [hv]
        exact awp_ret (ends_plain (.inr rfl) rfl evX)
def goK (N : List (List Int)) (V : List Bool) (s k : Nat) : Bool := decide ((N.getD s []).getD k 0 ≥ 0) && V.getD ((N.getD s []).getD k 0).toNat false
def fromL (F : List Bool) (N : List (List Int)) (V : List Bool) : Nat → Nat → List Int → List (List Int)
  | 0, s, w => if F.getD s false then [w] else []
  | n + 1, s, w => (if F.getD s false then [w] else []) ++ (List.range (N.getD s []).length).flatMap fun k => if goK N V s k then fromL F N V n ((N.getD s []).getD k 0).toNat (w ++ [(k : Int)]) else []
def fromK (F : List Bool) (N : List (List Int)) (V : List Bool) (n s : Nat) (w : List Int) (k : Nat) : List (List Int) := (if F.getD s false then [w] else []) ++ (List.range k).flatMap fun k => if goK N V s k then fromL F N V n ((N.getD s []).getD k 0).toNat (w ++ [(k : Int)]) else []
theorem fromK_succ {F : List Bool} {N : List (List Int)} {V : List Bool} {n s : Nat} {w : List Int} {k : Nat} : fromK F N V n s w (k + 1) = fromK F N V n s w k ++ if goK N V s k then fromL F N V n ((N.getD s []).getD k 0).toNat (w ++ [(k : Int)]) else [] := by
  simp [fromK, List.range_succ, List.flatMap_append]
theorem fromK_le {F : List Bool} {N : List (List Int)} {V : List Bool} {n s : Nat} {w : List Int} {k m : Nat} (h : k ≤ m) : fromK F N V n s w k <+: fromK F N V n s w m := by
  induction m with
  | zero => rw [show k = 0 by omega]; exact List.prefix_refl _
  | succ m ih =>
    rcases Nat.lt_or_ge k (m + 1) with q | q
    · exact (ih (by omega)).trans (by rw [fromK_succ]; exact List.prefix_append _ _)
    · rw [show k = m + 1 by omega]; exact List.prefix_refl _
theorem getD_memI {l : List Int} {i : Nat} (h : i < l.length) : l.getD i 0 ∈ l := by
  rw [List.getD_eq_getElem?_getD, List.getElem?_eq_getElem h]; exact List.getElem_mem _
section
variable (J : Bool × List (List Int) → World → Imm → Prop) (hs : ∀ g, Stable (J g)) (l : Nat) (xs : List (List Int))
    (hY : ∀ pre x, pre ++ [x] <+: xs → GYield Try.prog J l [.sl false (ints x)] (true, pre) (fun r g' => (r = .v (.bool true) ∧ g' = (true, pre ++ [x])) ∨ (r = .v (.bool false) ∧ g' = (false, pre ++ [x]))))
include hs hY
set_option maxHeartbeats 16000000 in
theorem c_from {L k : Nat} {N : List (List Int)} (h : NOk L k N) (hL : L ≤ 1000) (hk : 1 ≤ k ∧ k ≤ 2000) (st : Nat) (F V : List Bool) (hF : F.length = k) (hV : V.length = k) :
    ∀ (n s : Nat) (f : Bool) (w : List Int) (pre : List (List Int)), s < k → n + w.length ≤ 1000 → pre ++ fromL F N V n s w <+: xs →
      GCalls Try.prog J 21 [dfaD L st F N, .sl false (bos V), i64 s, i64 n, .sl f (ints w), .fn (.yield l) 0 []] (true, pre)
        (fun r g' => (r = .v (.bool true) ∧ g' = (true, pre ++ fromL F N V n s w)) ∨ (r = .v (.bool false) ∧ ∃ q, q <+: xs ∧ g' = (false, q))) := by
  have main : ∀ n, (∀ m, n = m + 1 → ∀ (s : Nat) (f : Bool) (w : List Int) (pre : List (List Int)), s < k → m + w.length ≤ 1000 → pre ++ fromL F N V m s w <+: xs →
      GCalls Try.prog J 21 [dfaD L st F N, .sl false (bos V), i64 s, i64 m, .sl f (ints w), .fn (.yield l) 0 []] (true, pre)
        (fun r g' => (r = .v (.bool true) ∧ g' = (true, pre ++ fromL F N V m s w)) ∨ (r = .v (.bool false) ∧ ∃ q, q <+: xs ∧ g' = (false, q)))) →
      ∀ (s : Nat) (f : Bool) (w : List Int) (pre : List (List Int)), s < k → n + w.length ≤ 1000 → pre ++ fromL F N V n s w <+: xs →
      GCalls Try.prog J 21 [dfaD L st F N, .sl false (bos V), i64 s, i64 n, .sl f (ints w), .fn (.yield l) 0 []] (true, pre)
        (fun r g' => (r = .v (.bool true) ∧ g' = (true, pre ++ fromL F N V n s w)) ∨ (r = .v (.bool false) ∧ ∃ q, q <+: xs ∧ g' = (false, q))) := by
    intro n ih s f w pre hsk hn hx
    refine gcalls_of_ywp (rs := [12]) hs Try.func21 rfl Try.ntmps21 (by simp) rfl fun Ib => ?_
    have hl := h.len
    have hFs : s < F.length := by omega
    obtain ⟨fin, hfin⟩ : ∃ b, F.getD s false = b := ⟨_, rfl⟩
    have hgF := bos_get hFs
    rw [hfin] at hgF
    have g1 : (0 : Int) ≤ (s : Int) ∧ (s : Int) < (F.length : Int) := ⟨by omega, by omega⟩
    have hxK : pre ++ fromK F N V n s w 0 <+: xs := by
      refine List.IsPrefix.trans ?_ hx
      refine (List.prefix_append_right_inj pre).2 ?_
      cases n with
      | zero => simp [fromK, fromL]
      | succ n => simp [fromK, fromL]
    have hK0 : fromK F N V n s w 0 = if fin then [w] else [] := by simp only [fromK, hfin]; simp
    rw [hK0] at hxK
    (refine ywp_seq (ywp_reg ttok ?_); simp (maxSteps := 4000000) only [↓reduceIte, Nat.reduceLT, Nat.reduceEqDiff, reduceCtorEq, Nat.reduceAdd, Nat.reduceMul, Int.reduceLE, Int.reduceLT, Int.reduceToNat, Nat.reduceLeDiff, Nat.reduceSub, Int.reduceEq, Nat.reduceBEq, evB, tyA, thenY_n, dfaD]; (repeat (with_reducible refine And.intro ?_ ?_; exact sdX)))
    refine ywp_pure 6 (d := .ptr 1000 0 0) evX (by simp (maxSteps := 4000000) only [↓reduceIte, Nat.reduceLT, Nat.reduceEqDiff, reduceCtorEq, Nat.reduceAdd, Nat.reduceMul, Int.reduceLE, Int.reduceLT, Int.reduceToNat, Nat.reduceLeDiff, Nat.reduceSub, Int.reduceEq, Nat.reduceBEq, evB]; rfl) evX ?_
    refine ywp_le (st' := mkS 68 [(1, .sl false (bos V)), (2, i64 s), (3, i64 n), (4, .sl f (ints w)), (5, .fn (.yield l) 0 []), (6, .ref [i64 L, i64 st, .sl false (bos F), .sl false (iis N)] 0), (12, bo false)] []) ?_ (mkS_le rfl ?_ ?_)
    rotate_left
    · exact evX
    · exact evX
    refine ywp_seqJ (mkS 68 [(1, .sl false (bos V)), (2, i64 s), (3, i64 n), (4, .sl f (ints w)), (5, .fn (.yield l) 0 []), (6, .ref [i64 L, i64 st, .sl false (bos F), .sl false (iis N)] 0), (12, bo false)] []) (true, pre ++ if fin then [w] else []) ?_ ?_
    · cases fin
      · (refine ywp_seq (ywp_reg ttok ?_); simp (maxSteps := 4000000) only [↓reduceIte, Nat.reduceLT, Nat.reduceEqDiff, reduceCtorEq, Nat.reduceAdd, Nat.reduceMul, Int.reduceLE, Int.reduceLT, Int.reduceToNat, Nat.reduceLeDiff, Nat.reduceSub, Int.reduceEq, Nat.reduceBEq, evB, tyA, thenY_n, hgF, bos_len]; (repeat (with_reducible refine And.intro ?_ ?_; exact sdX)))
        refine ywp_cond (t := false) evX (fun q => by cases q) (fun _ => ywp_skip ?_)
        refine ⟨by simp, mkS_le rfl ?_ ?_⟩
        · exact evX
        · exact evX
      · refine ywp_seq (ywp_regS ttok 9 (mkS 68 [(1, .sl false (bos V)), (2, i64 s), (3, i64 n), (4, .sl f (ints w)), (5, .fn (.yield l) 0 []), (6, .ref [i64 L, i64 st, .sl false (bos F), .sl false (iis N)] 0), (12, bo false), (20, bo true), (21, .fn (.yield l) 0 []), (23, .own 102008 0 w.length)] [(102008, { sz := 1, rows := ints w })])
          (K2 := fun g' s' => ∃ r, ((r = .v (.bool true) ∧ g' = (true, pre ++ [w])) ∨ (r = .v (.bool false) ∧ g' = (false, pre ++ [w]))) ∧ s' = (mkS 68 [(1, .sl false (bos V)), (2, i64 s), (3, i64 n), (4, .sl f (ints w)), (5, .fn (.yield l) 0 []), (6, .ref [i64 L, i64 st, .sl false (bos F), .sl false (iis N)] 0), (12, bo false), (20, bo true)] []).put (some 24) r) rfl rfl ?_ ?_ ?_)
        · simp (maxSteps := 4000000) only [↓reduceIte, Nat.reduceLT, Nat.reduceEqDiff, reduceCtorEq, Nat.reduceAdd, Nat.reduceMul, Int.reduceLE, Int.reduceLT, Int.reduceToNat, Nat.reduceLeDiff, Nat.reduceSub, Int.reduceEq, Nat.reduceBEq, evB, tyA, hgF, bos_len, List.take_succ_cons, List.take_zero]
          (repeat (with_reducible refine And.intro ?_ ?_; exact sdX))
          refine callVC_mk fnok28 (c_CloneI f w (by omega)) rfl ?_
          simp (maxSteps := 4000000) only [↓reduceIte, Nat.reduceLT, Nat.reduceEqDiff, reduceCtorEq, Nat.reduceAdd, Nat.reduceMul, Int.reduceLE, Int.reduceLT, Int.reduceToNat, Nat.reduceLeDiff, Nat.reduceSub, Int.reduceEq, Nat.reduceBEq, evB, tyA]
          (repeat (with_reducible refine And.intro ?_ ?_; exact sdX))
          refine mkS_le rfl ?_ ?_
          · exact evX
          · exact evX
        · refine specI_yield (ids := [102008]) (p := w.length ≤ (ints w).length) (T := mkS 68 [(1, .sl false (bos V)), (2, i64 s), (3, i64 n), (4, .sl f (ints w)), (5, .fn (.yield l) 0 []), (6, .ref [i64 L, i64 st, .sl false (bos F), .sl false (iis N)] 0), (12, bo false), (20, bo true)] []) hs rfl rfl rfl evX (by simp (maxSteps := 4000000) only [↓reduceIte, Nat.reduceLT, Nat.reduceEqDiff, reduceCtorEq, Nat.reduceAdd, Nat.reduceMul, Int.reduceLE, Int.reduceLT, Int.reduceToNat, Nat.reduceLeDiff, Nat.reduceSub, Int.reduceEq, Nat.reduceBEq, evB]; rfl) (by simp (maxSteps := 4000000) only [↓reduceIte, Nat.reduceLT, Nat.reduceEqDiff, reduceCtorEq, Nat.reduceAdd, Nat.reduceMul, Int.reduceLE, Int.reduceLT, Int.reduceToNat, Nat.reduceLeDiff, Nat.reduceSub, Int.reduceEq, Nat.reduceBEq, evB, ints_take, List.take_length]) (by rw [ints_len]; exact Nat.le_refl _) (hY pre w (by simpa using hxK)) (bare_mk rfl evX rfl) rfl (fun r g' hr => ⟨r, hr, rfl⟩)
        · rintro g' s' ⟨r, hr | hr, rfl⟩
          · obtain ⟨rfl, rfl⟩ := hr
            simp (maxSteps := 4000000) only [↓reduceIte, Nat.reduceLT, Nat.reduceEqDiff, reduceCtorEq, Nat.reduceAdd, Nat.reduceMul, Int.reduceLE, Int.reduceLT, Int.reduceToNat, Nat.reduceLeDiff, Nat.reduceSub, Int.reduceEq, Nat.reduceBEq, evB, tyA, List.drop_succ_cons, List.drop_zero, thenY_n]
            (repeat (with_reducible refine And.intro ?_ ?_; exact sdX))
            refine ywp_cond (t := false) evX (fun q => by cases q) (fun _ => ywp_skip ?_)
            refine ⟨by simp, mkS_le rfl ?_ ?_⟩
            · exact evX
            · exact evX
          · obtain ⟨rfl, rfl⟩ := hr
            simp (maxSteps := 4000000) only [↓reduceIte, Nat.reduceLT, Nat.reduceEqDiff, reduceCtorEq, Nat.reduceAdd, Nat.reduceMul, Int.reduceLE, Int.reduceLT, Int.reduceToNat, Nat.reduceLeDiff, Nat.reduceSub, Int.reduceEq, Nat.reduceBEq, evB, tyA, List.drop_succ_cons, List.drop_zero, thenY_n]
            (repeat (with_reducible refine And.intro ?_ ?_; exact sdX))
            refine ywp_cond (t := true) evX (fun _ => ?_) (fun q => by cases q)
            (refine ywp_seq (ywp_reg ttok ?_); simp (maxSteps := 4000000) only [↓reduceIte, Nat.reduceLT, Nat.reduceEqDiff, reduceCtorEq, Nat.reduceAdd, Nat.reduceMul, Int.reduceLE, Int.reduceLT, Int.reduceToNat, Nat.reduceLeDiff, Nat.reduceSub, Int.reduceEq, Nat.reduceBEq, evB, tyA, thenY_n]; (repeat (with_reducible refine And.intro ?_ ?_; exact sdX)))
            refine ywp_ret ?_
            exact ⟨.inr rfl, bo false, by simp (maxSteps := 4000000) only [↓reduceIte, Nat.reduceLT, Nat.reduceEqDiff, reduceCtorEq, Nat.reduceAdd, Nat.reduceMul, Int.reduceLE, Int.reduceLT, Int.reduceToNat, Nat.reduceLeDiff, Nat.reduceSub, Int.reduceEq, Nat.reduceBEq, evB], rfl, .inr ⟨rfl, pre ++ [w], by simpa using hxK, rfl⟩⟩
    · cases n with
      | zero =>
        have z1 : (((0 : Nat) : Int) == 0) = true := rfl
        refine ywp_seq ?_
        (refine ywp_seq (ywp_reg ttok ?_); simp (maxSteps := 4000000) only [↓reduceIte, Nat.reduceLT, Nat.reduceEqDiff, reduceCtorEq, Nat.reduceAdd, Nat.reduceMul, Int.reduceLE, Int.reduceLT, Int.reduceToNat, Nat.reduceLeDiff, Nat.reduceSub, Int.reduceEq, Nat.reduceBEq, evB, tyA, thenY_n, z1]; (repeat (with_reducible refine And.intro ?_ ?_; exact sdX)))
        refine ywp_cond (t := true) evX (fun _ => ?_) (fun q => by cases q)
        (refine ywp_seq (ywp_reg ttok ?_); simp (maxSteps := 4000000) only [↓reduceIte, Nat.reduceLT, Nat.reduceEqDiff, reduceCtorEq, Nat.reduceAdd, Nat.reduceMul, Int.reduceLE, Int.reduceLT, Int.reduceToNat, Nat.reduceLeDiff, Nat.reduceSub, Int.reduceEq, Nat.reduceBEq, evB, tyA, thenY_n]; (repeat (with_reducible refine And.intro ?_ ?_; exact sdX)))
        refine ywp_ret ?_
        exact ⟨.inr rfl, bo true, by simp (maxSteps := 4000000) only [↓reduceIte, Nat.reduceLT, Nat.reduceEqDiff, reduceCtorEq, Nat.reduceAdd, Nat.reduceMul, Int.reduceLE, Int.reduceLT, Int.reduceToNat, Nat.reduceLeDiff, Nat.reduceSub, Int.reduceEq, Nat.reduceBEq, evB], rfl, .inl ⟨rfl, by rw [fromL, hfin]⟩⟩
      | succ m =>
        have z1 : (((m + 1 : Nat) : Int) == 0) = false := by simp; omega
        obtain ⟨hrl, hrt⟩ := h.get hsk
        have hfL : fromL F N V (m + 1) s w = fromK F N V m s w L := by rw [fromL, fromK, hrl]
        have hKm : fromK F N V m s w 0 = if fin then [w] else [] := by
          have : fromK F N V m s w 0 = fromK F N V (m + 1) s w 0 := by simp [fromK]
          rw [this, hK0]
        have hsN : s < N.length := by omega
        have hgN := iis_get hsN
        have g2 : (0 : Int) ≤ (s : Int) ∧ (s : Int) < (N.length : Int) := ⟨by omega, by omega⟩
        refine ywp_seq ?_
        (refine ywp_seq (ywp_reg ttok ?_); simp (maxSteps := 4000000) only [↓reduceIte, Nat.reduceLT, Nat.reduceEqDiff, reduceCtorEq, Nat.reduceAdd, Nat.reduceMul, Int.reduceLE, Int.reduceLT, Int.reduceToNat, Nat.reduceLeDiff, Nat.reduceSub, Int.reduceEq, Nat.reduceBEq, evB, tyA, thenY_n, z1]; (repeat (with_reducible refine And.intro ?_ ?_; exact sdX)))
        refine ywp_cond (t := false) evX (fun q => by cases q) (fun _ => ywp_skip ?_)
        rw [thenY_n]
        refine ywp_seq ?_
        (refine ywp_seq (ywp_reg ttok ?_); simp (maxSteps := 4000000) only [↓reduceIte, Nat.reduceLT, Nat.reduceEqDiff, reduceCtorEq, Nat.reduceAdd, Nat.reduceMul, Int.reduceLE, Int.reduceLT, Int.reduceToNat, Nat.reduceLeDiff, Nat.reduceSub, Int.reduceEq, Nat.reduceBEq, evB, tyA, thenY_n, hgN, iis_len, ints_len, hrl]; (repeat (with_reducible refine And.intro ?_ ?_; exact sdX)))
        refine ywp_block (ywp_loop (X := Nat) (fun i => mkS 68 [(1, .sl false (bos V)), (2, i64 s), (3, i64 ((m + 1 : Nat) : Int)), (4, .sl f (ints w)), (5, .fn (.yield l) 0 []), (6, .ref [i64 L, i64 st, .sl false (bos F), .sl false (iis N)] 0), (12, bo false), (33, .sl false (ints (N.getD s []))), (34, i64 L), (35, i64 i)] []) (fun i => (true, pre ++ fromK F N V m s w i)) (fun i => i ≤ L) (fun i => L - i) 0 (Nat.zero_le _) (by rw [hKm]) (mkS_le rfl ?_ ?_) ?_)
        · simp (maxSteps := 4000000) only [↓reduceIte, Nat.reduceLT, Nat.reduceEqDiff, reduceCtorEq, Nat.reduceAdd, Nat.reduceMul, Int.reduceLE, Int.reduceLT, Int.reduceToNat, Nat.reduceLeDiff, Nat.reduceSub, Int.reduceEq, Nat.reduceBEq, evB]
          try rfl
        · exact evX
        intro i hi
        by_cases hlt : i < L
        · have d1 : decide ((i : Int) < (L : Int)) = true := by simpa using hlt
          have hiw : i < (N.getD s []).length := by omega
          have hgi := ints_get hiw
          have hwi : IntKind.i64.wrap ((i : Int) + 1) = ((i + 1 : Nat) : Int) := i64_in (by omega) (by omega)
          have hwm : IntKind.i64.wrap (((m + 1 : Nat) : Int) - 1) = ((m : Nat) : Int) := by
            rw [show ((m + 1 : Nat) : Int) - 1 = ((m : Nat) : Int) by omega]; exact i64_in (by omega) (by omega)
          have hmem : (N.getD s []).getD i 0 ∈ N.getD s [] := getD_memI hiw
          have hb := hrt _ hmem
          obtain ⟨v, hv⟩ : ∃ v, (N.getD s []).getD i 0 = v := ⟨_, rfl⟩
          rw [hv] at hgi hb
          have g3 : (0 : Int) ≤ (i : Int) ∧ (i : Int) < ((N.getD s []).length : Int) := ⟨by omega, by omega⟩
          (refine ywp_seq (ywp_reg ttok ?_); simp (maxSteps := 4000000) only [↓reduceIte, Nat.reduceLT, Nat.reduceEqDiff, reduceCtorEq, Nat.reduceAdd, Nat.reduceMul, Int.reduceLE, Int.reduceLT, Int.reduceToNat, Nat.reduceLeDiff, Nat.reduceSub, Int.reduceEq, Nat.reduceBEq, evB, tyA, thenY_n, d1]; (repeat (with_reducible refine And.intro ?_ ?_; exact sdX)))
          refine ywp_seq (ywp_cond (t := true) evX (fun _ => ywp_skip ?_) (fun q => by cases q))
          rw [thenY_n]
          refine ywp_seqJ (mkS 68 [(1, .sl false (bos V)), (2, i64 s), (3, i64 ((m + 1 : Nat) : Int)), (4, .sl f (ints w)), (5, .fn (.yield l) 0 []), (6, .ref [i64 L, i64 st, .sl false (bos F), .sl false (iis N)] 0), (12, bo false), (33, .sl false (ints (N.getD s []))), (34, i64 L), (35, i64 i)] []) (true, pre ++ fromK F N V m s w (i + 1)) (ywp_block ?_) ?_
          · (refine ywp_seq (ywp_reg ttok ?_); simp (maxSteps := 4000000) only [↓reduceIte, Nat.reduceLT, Nat.reduceEqDiff, reduceCtorEq, Nat.reduceAdd, Nat.reduceMul, Int.reduceLE, Int.reduceLT, Int.reduceToNat, Nat.reduceLeDiff, Nat.reduceSub, Int.reduceEq, Nat.reduceBEq, evB, tyA, thenY_n, hgi, ints_len, hrl]; (repeat (with_reducible refine And.intro ?_ ?_; exact sdX)))
            have hno : goK N V s i = false → fromK F N V m s w (i + 1) = fromK F N V m s w i := fun q => by rw [fromK_succ, q]; simp
            by_cases h0 : 0 ≤ v
            · obtain ⟨u, rfl⟩ := Int.eq_ofNat_of_zero_le h0
              have hu : u < V.length := by omega
              have hgV := bos_get hu
              obtain ⟨bv, hbv⟩ : ∃ b, V.getD u false = b := ⟨_, rfl⟩
              rw [hbv] at hgV
              have e1 : decide ((u : Int) ≥ 0) = true := by simp
              have hgo : goK N V s i = bv := by
                unfold goK; rw [hv, e1]; simpa using hbv
              cases bv
              · refine ywp_seq (ywp_draw ttok 24 (mkS 68 [(1, .sl false (bos V)), (2, i64 s), (3, i64 ((m + 1 : Nat) : Int)), (4, .sl f (ints w)), (5, .fn (.yield l) 0 []), (6, .ref [i64 L, i64 st, .sl false (bos F), .sl false (iis N)] 0), (12, bo false), (33, .sl false (ints (N.getD s []))), (34, i64 L), (35, i64 i), (48, bo false)] []) ((0, none) :: (1, none) :: (2, none) :: (3, none) :: (4, none) :: (5, none) :: (6, none) :: (7, none) :: (8, none) :: (9, none) :: (10, none) :: (11, none) :: (12, none) :: (13, none) :: (14, none) :: (15, none) :: (16, none) :: (17, none) :: (18, none) :: (19, none) :: (20, none) :: (23, none) :: (21, some [9, 10, 11, 12, 13, 14, 15, 16, 17, 18, 19, 23]) :: (22, some [9, 10, 11, 12, 13, 23]) :: []) [0, 1, 2, 3, 4, 5, 6, 7, 8, 9, 10, 11, 12, 13, 14, 15, 16, 17, 18, 19, 20, 23, 21, 22, 24, 25, 26] [] [] (K2 := fun g' s' => g' = (true, pre ++ fromK F N V m s w i) ∧ s' = (mkS 68 [(1, .sl false (bos V)), (2, i64 s), (3, i64 ((m + 1 : Nat) : Int)), (4, .sl f (ints w)), (5, .fn (.yield l) 0 []), (6, .ref [i64 L, i64 st, .sl false (bos F), .sl false (iis N)] 0), (12, bo false), (33, .sl false (ints (N.getD s []))), (34, i64 L), (35, i64 i), (48, bo false)] []).put (some 64) (.v (.tuple #[]))) rfl (by decide +kernel) (fun O hO => ?_) ?_ ?_)
                · simp only [OpsAre, Nat.reduceAdd, and_true, List.toList_toArray, List.append_eq, List.cons_append, List.nil_append, List.take_succ_cons, List.take_zero] at hO
                  simp (maxSteps := 4000000) only [↓reduceIte, Nat.reduceLT, Nat.reduceEqDiff, reduceCtorEq, Nat.reduceAdd, Nat.reduceMul, Int.reduceLE, Int.reduceLT, Int.reduceToNat, Nat.reduceLeDiff, Nat.reduceSub, Int.reduceEq, Nat.reduceBEq, evB, tyA, hO, e1, hgV, bos_len]; (repeat (with_reducible refine And.intro ?_ ?_; exact sdX))
                  refine mkS_le rfl ?_ ?_
                  · exact evX
                  · exact evX
                · exact .inl ⟨rfl, rfl, rfl, rfl⟩
                · rintro g' s' ⟨rfl, rfl⟩
                  simp (maxSteps := 4000000) only [↓reduceIte, Nat.reduceLT, Nat.reduceEqDiff, reduceCtorEq, Nat.reduceAdd, Nat.reduceMul, Int.reduceLE, Int.reduceLT, Int.reduceToNat, Nat.reduceLeDiff, Nat.reduceSub, Int.reduceEq, Nat.reduceBEq, evB, tyA, List.drop_succ_cons, List.drop_zero, thenY_n]
                  (repeat (with_reducible refine And.intro ?_ ?_; exact sdX))
                  refine ywp_cond (t := false) evX (fun q => by cases q) (fun _ => ywp_skip ?_)
                  simp only [blockY_n, joinY_n]
                  refine ⟨by rw [hno hgo], mkS_le rfl ?_ ?_⟩
                  · exact evX
                  · exact evX
              · have hxi : pre ++ fromK F N V m s w i ++ fromL F N V m u (w ++ [(i : Int)]) <+: xs := by
                  have e : fromK F N V m s w i ++ fromL F N V m u (w ++ [(i : Int)]) = fromK F N V m s w (i + 1) := by
                    rw [fromK_succ, hgo, hv]; simp
                  rw [List.append_assoc, e]
                  refine List.IsPrefix.trans ?_ hx
                  rw [hfL]
                  exact (List.prefix_append_right_inj pre).2 (fromK_le (by omega))
                have e2 : pre ++ fromK F N V m s w i ++ fromL F N V m u (w ++ [(i : Int)]) = pre ++ fromK F N V m s w (i + 1) := by
                  rw [fromK_succ, hgo, hv]; simp
                have y1 : ints w ++ [[i64 (i : Int)]] = ints (w ++ [(i : Int)]) := by simp [ints]
                have y4 : (∀ row ∈ [[i64 (i : Int)]], row.length = 1) = True := by simp
                have y2 : (ints w).take w.length = ints w := List.take_of_length_le (by rw [ints_len]; exact Nat.le_refl _)
                have hc := ih m rfl u false (w ++ [(i : Int)]) (pre ++ fromK F N V m s w i) (by omega) (by simp; omega) hxi
                refine ywp_seq (ywp_draw ttok 24 (mkS 68 [(1, .sl false (bos V)), (2, i64 s), (3, i64 ((m + 1 : Nat) : Int)), (4, .sl f (ints w)), (5, .fn (.yield l) 0 []), (6, .ref [i64 L, i64 st, .sl false (bos F), .sl false (iis N)] 0), (12, bo false), (33, .sl false (ints (N.getD s []))), (34, i64 L), (35, i64 i), (48, bo true), (49, .agg [i64 L, i64 st, .sl false (bos F), .sl false (iis N)]), (50, .sl false (bos V)), (51, i64 u), (53, i64 m), (62, .own 9022 0 (w.length + 1)), (63, .fn (.yield l) 0 [])] [(9022, { sz := 1, rows := ints (w ++ [(i : Int)]) })]) ((0, none) :: (1, none) :: (2, none) :: (3, none) :: (4, none) :: (5, none) :: (6, none) :: (7, none) :: (8, none) :: (9, none) :: (10, none) :: (11, none) :: (12, none) :: (13, none) :: (14, none) :: (15, none) :: (16, none) :: (17, none) :: (18, none) :: (19, none) :: (20, none) :: (23, none) :: (21, some [9, 10, 11, 12, 13, 14, 15, 16, 17, 18, 19, 23]) :: (22, some [9, 10, 11, 12, 13, 23]) :: []) [0, 1, 2, 3, 4, 5, 6, 7, 8, 9, 10, 11, 12, 13, 14, 15, 16, 17, 18, 19, 20, 23, 21, 22, 24, 25, 26] [] []
                  (K2 := fun g' s' => ∃ r, ((r = .v (.bool true) ∧ g' = (true, pre ++ fromK F N V m s w i ++ fromL F N V m u (w ++ [(i : Int)]))) ∨ (r = .v (.bool false) ∧ ∃ q, q <+: xs ∧ g' = (false, q))) ∧ s' = (mkS 68 [(1, .sl false (bos V)), (2, i64 s), (3, i64 ((m + 1 : Nat) : Int)), (4, .sl f (ints w)), (5, .fn (.yield l) 0 []), (6, .ref [i64 L, i64 st, .sl false (bos F), .sl false (iis N)] 0), (12, bo false), (33, .sl false (ints (N.getD s []))), (34, i64 L), (35, i64 i), (48, bo true)] []).put (some 64) r) rfl (by decide +kernel) (fun O hO => ?_) ?_ ?_)
                · simp only [OpsAre, Nat.reduceAdd, and_true, List.toList_toArray, List.append_eq, List.cons_append, List.nil_append, List.take_succ_cons, List.take_zero] at hO
                  simp (maxSteps := 4000000) only [↓reduceIte, Nat.reduceLT, Nat.reduceEqDiff, reduceCtorEq, Nat.reduceAdd, Nat.reduceMul, Int.reduceLE, Int.reduceLT, Int.reduceToNat, Nat.reduceLeDiff, Nat.reduceSub, Int.reduceEq, Nat.reduceBEq, evB, tyA, hO, e1, hgV, bos_len, hwm, y1, y2, y4, ints_len, ints_ex]; (repeat (with_reducible refine And.intro ?_ ?_; exact sdX))
                  refine mkS_le rfl ?_ ?_
                  · exact evX
                  · exact evX
                · refine specO_call (ids := [9022]) (p := w.length + 1 ≤ (ints (w ++ [(i : Int)])).length) (args := [.agg [i64 L, i64 st, .sl false (bos F), .sl false (iis N)], .sl false (bos V), i64 u, i64 m, .own 9022 0 (w.length + 1), .fn (.yield l) 0 []]) (T := mkS 68 [(1, .sl false (bos V)), (2, i64 s), (3, i64 ((m + 1 : Nat) : Int)), (4, .sl f (ints w)), (5, .fn (.yield l) 0 []), (6, .ref [i64 L, i64 st, .sl false (bos F), .sl false (iis N)] 0), (12, bo false), (33, .sl false (ints (N.getD s []))), (34, i64 L), (35, i64 i), (48, bo true)] []) hs rfl fnok21 rfl ?_ (by rw [ints_len]; simp) hc (bare_mk rfl evX rfl) rfl (fun r g' hr => ⟨r, hr, rfl⟩)
                  have y3 : w.length + 1 = (w ++ [(i : Int)]).length := by simp
                  simp (maxSteps := 4000000) only [↓reduceIte, Nat.reduceLT, Nat.reduceEqDiff, reduceCtorEq, Nat.reduceAdd, Nat.reduceMul, Int.reduceLE, Int.reduceLT, Int.reduceToNat, Nat.reduceLeDiff, Nat.reduceSub, Int.reduceEq, Nat.reduceBEq, evB, ints_take, y3, List.take_length, dfaD]
                · rintro g' s' ⟨r, hr | hr, rfl⟩
                  · obtain ⟨rfl, rfl⟩ := hr
                    simp (maxSteps := 4000000) only [↓reduceIte, Nat.reduceLT, Nat.reduceEqDiff, reduceCtorEq, Nat.reduceAdd, Nat.reduceMul, Int.reduceLE, Int.reduceLT, Int.reduceToNat, Nat.reduceLeDiff, Nat.reduceSub, Int.reduceEq, Nat.reduceBEq, evB, tyA, List.drop_succ_cons, List.drop_zero, thenY_n]
                    (repeat (with_reducible refine And.intro ?_ ?_; exact sdX))
                    refine ywp_cond (t := false) evX (fun q => by cases q) (fun _ => ywp_skip ?_)
                    simp only [blockY_n, joinY_n]
                    refine ⟨by rw [e2], mkS_le rfl ?_ ?_⟩
                    · exact evX
                    · exact evX
                  · obtain ⟨rfl, q, hq, rfl⟩ := hr
                    simp (maxSteps := 4000000) only [↓reduceIte, Nat.reduceLT, Nat.reduceEqDiff, reduceCtorEq, Nat.reduceAdd, Nat.reduceMul, Int.reduceLE, Int.reduceLT, Int.reduceToNat, Nat.reduceLeDiff, Nat.reduceSub, Int.reduceEq, Nat.reduceBEq, evB, tyA, List.drop_succ_cons, List.drop_zero, thenY_n]
                    (repeat (with_reducible refine And.intro ?_ ?_; exact sdX))
                    refine ywp_cond (t := true) evX (fun _ => ?_) (fun q => by cases q)
                    (refine ywp_seq (ywp_reg ttok ?_); simp (maxSteps := 4000000) only [↓reduceIte, Nat.reduceLT, Nat.reduceEqDiff, reduceCtorEq, Nat.reduceAdd, Nat.reduceMul, Int.reduceLE, Int.reduceLT, Int.reduceToNat, Nat.reduceLeDiff, Nat.reduceSub, Int.reduceEq, Nat.reduceBEq, evB, tyA, thenY_n]; (repeat (with_reducible refine And.intro ?_ ?_; exact sdX)))
                    refine ywp_ret ?_
                    simp only [blockY_r, joinY_r, loopY_r, thenY_r]
                    refine ⟨by simp, bo false, by simp (maxSteps := 4000000) only [↓reduceIte, Nat.reduceLT, Nat.reduceEqDiff, reduceCtorEq, Nat.reduceAdd, Nat.reduceMul, Int.reduceLE, Int.reduceLT, Int.reduceToNat, Nat.reduceLeDiff, Nat.reduceSub, Int.reduceEq, Nat.reduceBEq, evB], rfl, .inr ⟨rfl, q, hq, rfl⟩⟩
            · have e1 : decide (v ≥ 0) = false := by simpa using h0
              have hgo : goK N V s i = false := by
                unfold goK; rw [hv, e1]; rfl
              refine ywp_seq (ywp_draw ttok 24 (mkS 68 [(1, .sl false (bos V)), (2, i64 s), (3, i64 ((m + 1 : Nat) : Int)), (4, .sl f (ints w)), (5, .fn (.yield l) 0 []), (6, .ref [i64 L, i64 st, .sl false (bos F), .sl false (iis N)] 0), (12, bo false), (33, .sl false (ints (N.getD s []))), (34, i64 L), (35, i64 i), (48, bo false)] []) ((0, none) :: (1, none) :: (2, none) :: (3, none) :: (4, none) :: (5, none) :: (6, none) :: (7, none) :: (8, none) :: (9, none) :: (10, none) :: (11, none) :: (12, none) :: (13, none) :: (14, none) :: (15, none) :: (16, none) :: (17, none) :: (18, none) :: (19, none) :: (20, none) :: (23, none) :: (21, some [9, 10, 11, 12, 13, 14, 15, 16, 17, 18, 19, 23]) :: (22, some [9, 10, 11, 12, 13, 23]) :: []) [0, 1, 2, 3, 4, 5, 6, 7, 8, 9, 10, 11, 12, 13, 14, 15, 16, 17, 18, 19, 20, 23, 21, 22, 24, 25, 26] [] [] (K2 := fun g' s' => g' = (true, pre ++ fromK F N V m s w i) ∧ s' = (mkS 68 [(1, .sl false (bos V)), (2, i64 s), (3, i64 ((m + 1 : Nat) : Int)), (4, .sl f (ints w)), (5, .fn (.yield l) 0 []), (6, .ref [i64 L, i64 st, .sl false (bos F), .sl false (iis N)] 0), (12, bo false), (33, .sl false (ints (N.getD s []))), (34, i64 L), (35, i64 i), (48, bo false)] []).put (some 64) (.v (.tuple #[]))) rfl (by decide +kernel) (fun O hO => ?_) ?_ ?_)
              · simp only [OpsAre, Nat.reduceAdd, and_true, List.toList_toArray, List.append_eq, List.cons_append, List.nil_append, List.take_succ_cons, List.take_zero] at hO
                simp (maxSteps := 4000000) only [↓reduceIte, Nat.reduceLT, Nat.reduceEqDiff, reduceCtorEq, Nat.reduceAdd, Nat.reduceMul, Int.reduceLE, Int.reduceLT, Int.reduceToNat, Nat.reduceLeDiff, Nat.reduceSub, Int.reduceEq, Nat.reduceBEq, evB, tyA, hO, e1, bos_len]; (repeat (with_reducible refine And.intro ?_ ?_; exact sdX))
                refine mkS_le rfl ?_ ?_
                · exact evX
                · exact evX
              · exact .inl ⟨rfl, rfl, rfl, rfl⟩
              · rintro g' s' ⟨rfl, rfl⟩
                simp (maxSteps := 4000000) only [↓reduceIte, Nat.reduceLT, Nat.reduceEqDiff, reduceCtorEq, Nat.reduceAdd, Nat.reduceMul, Int.reduceLE, Int.reduceLT, Int.reduceToNat, Nat.reduceLeDiff, Nat.reduceSub, Int.reduceEq, Nat.reduceBEq, evB, tyA, List.drop_succ_cons, List.drop_zero, thenY_n]
                (repeat (with_reducible refine And.intro ?_ ?_; exact sdX))
                refine ywp_cond (t := false) evX (fun q => by cases q) (fun _ => ywp_skip ?_)
                simp only [blockY_n, joinY_n]
                refine ⟨by rw [hno hgo], mkS_le rfl ?_ ?_⟩
                · exact evX
                · exact evX
          · refine ywp_reg ttok ?_
            simp (maxSteps := 4000000) only [↓reduceIte, Nat.reduceLT, Nat.reduceEqDiff, reduceCtorEq, Nat.reduceAdd, Nat.reduceMul, Int.reduceLE, Int.reduceLT, Int.reduceToNat, Nat.reduceLeDiff, Nat.reduceSub, Int.reduceEq, Nat.reduceBEq, evB, tyA, hwi, loopY_n]
            (repeat (with_reducible refine And.intro ?_ ?_; exact sdX))
            refine ⟨i + 1, by omega, by omega, rfl, mkS_le rfl ?_ ?_⟩
            · exact evX
            · exact evX
        · have d1 : decide ((i : Int) < (L : Int)) = false := by simpa using hlt
          have hiL : i = L := by omega
          subst hiL
          (refine ywp_seq (ywp_reg ttok ?_); simp (maxSteps := 4000000) only [↓reduceIte, Nat.reduceLT, Nat.reduceEqDiff, reduceCtorEq, Nat.reduceAdd, Nat.reduceMul, Int.reduceLE, Int.reduceLT, Int.reduceToNat, Nat.reduceLeDiff, Nat.reduceSub, Int.reduceEq, Nat.reduceBEq, evB, tyA, thenY_n, d1]; (repeat (with_reducible refine And.intro ?_ ?_; exact sdX)))
          refine ywp_seq (ywp_cond (t := false) evX (fun q => by cases q) (fun _ => ywp_exit ?_))
          rw [thenY_e, loopY_e, blockY_e, if_pos rfl, thenY_n]
          (refine ywp_seq (ywp_reg ttok ?_); simp (maxSteps := 4000000) only [↓reduceIte, Nat.reduceLT, Nat.reduceEqDiff, reduceCtorEq, Nat.reduceAdd, Nat.reduceMul, Int.reduceLE, Int.reduceLT, Int.reduceToNat, Nat.reduceLeDiff, Nat.reduceSub, Int.reduceEq, Nat.reduceBEq, evB, tyA, thenY_n]; (repeat (with_reducible refine And.intro ?_ ?_; exact sdX)))
          refine ywp_ret ?_
          exact ⟨.inr rfl, bo true, by simp (maxSteps := 4000000) only [↓reduceIte, Nat.reduceLT, Nat.reduceEqDiff, reduceCtorEq, Nat.reduceAdd, Nat.reduceMul, Int.reduceLE, Int.reduceLT, Int.reduceToNat, Nat.reduceLeDiff, Nat.reduceSub, Int.reduceEq, Nat.reduceBEq, evB], rfl, .inl ⟨rfl, by rw [hfL]⟩⟩
  intro n
  induction n with
  | zero => exact main 0 (fun m hm => by omega)
  | succ n ih => exact main (n + 1) (fun m hm => by cases hm; exact ih)
end
def mostN (m : Int) : Nat := (min (max m 0) 200).toNat
theorem mostN_le (m : Int) : mostN m ≤ 200 := by unfold mostN; omega
theorem mostN_eq (m : Int) : (if (200 : Int) < (if (0 : Int) > m then 0 else m) then (200 : Int) else (if (0 : Int) > m then 0 else m)) = (mostN m : Int) := by
  unfold mostN; split <;> split at * <;> omega
set_option maxHeartbeats 16000000 in
theorem c_All1 {L k : Nat} {N : List (List Int)} (h : NOk L k N) (hL : L ≤ 1000) (hk : 1 ≤ k ∧ k ≤ 2000) (st : Nat) (hst : st < k) (F : List Bool) (hF : F.length = k) (most : Int) :
    IterC Try.prog 19 [.ref [i64 L, i64 st, .sl false (bos F), .sl false (iis N)] 0, .ref [i64 most] 0] (fun x => .sl false (ints x)) (fromL F N (liveL F N) (mostN most) st []) := by
  intro l J hs hY
  refine gcalls_of_ywp (rs := []) hs Try.func19 rfl Try.ntmps19 (by simp) rfl fun Ib => ?_
  have hn := mostN_le most
  have hm := mostN_eq most
  generalize mostN most = n at *
  have hc := c_from J hs l _ hY h hL hk st F (liveL F N) hF (by rw [liveL_len, hF]) n st true [] [] hst (by simp; omega) (by rw [List.nil_append]; exact List.prefix_refl _)
  rw [List.nil_append] at hc
  refine ywp_seq (ywp_reg ttok ?_)
  simp (maxSteps := 4000000) only [↓reduceIte, Nat.reduceLT, Nat.reduceEqDiff, reduceCtorEq, Nat.reduceAdd, Nat.reduceMul, Int.reduceLE, Int.reduceLT, Int.reduceToNat, Nat.reduceLeDiff, Nat.reduceSub, Int.reduceEq, Nat.reduceBEq, evB, tyA, thenY_n]
  (repeat (with_reducible refine And.intro ?_ ?_; exact sdX))
  refine callVC_scal fnok20 (c_May h st hst F hF (by omega) hk) rfl ?_
  simp (maxSteps := 4000000) only [↓reduceIte, Nat.reduceLT, Nat.reduceEqDiff, reduceCtorEq, Nat.reduceAdd, Nat.reduceMul, Int.reduceLE, Int.reduceLT, Int.reduceToNat, Nat.reduceLeDiff, Nat.reduceSub, Int.reduceEq, Nat.reduceBEq, evB, tyA, thenY_n]
  (repeat (with_reducible refine And.intro ?_ ?_; exact sdX))
  refine ywp_cond (t := true) evX (fun _ => ?_) (fun q => by cases q)
  refine ywp_draw ttok 9 (mkS 16 [(6, .agg [i64 L, i64 st, .sl false (bos F), .sl false (iis N)]), (8, .sl false (bos (liveL F N))), (10, i64 st), (13, i64 n), (14, .fn (.yield l) 0 [])] []) ((0, none) :: (1, none) :: (3, none) :: (4, none) :: (5, none) :: (6, none) :: (7, none) :: (8, none) :: (2, some [0, 3, 4, 5, 6, 7, 8]) :: []) [0, 1, 3, 4, 5, 6, 7, 8, 2, 9] [] []
    (K2 := fun g' s' => (g' = (true, fromL F N (liveL F N) n st []) ∨ ∃ q, q <+: fromL F N (liveL F N) n st [] ∧ g' = (false, q)) ∧ ∃ r, s' = (mkS 16 [] []).put (some 15) r) rfl (by decide +kernel) (fun O hO => ?_) ?_ ?_
  · simp only [OpsAre, Nat.reduceAdd, and_true, List.toList_toArray, List.append_eq, List.cons_append, List.nil_append, List.take_succ_cons, List.take_zero] at hO
    simp (maxSteps := 4000000) only [↓reduceIte, Nat.reduceLT, Nat.reduceEqDiff, reduceCtorEq, Nat.reduceAdd, Nat.reduceMul, Int.reduceLE, Int.reduceLT, Int.reduceToNat, Nat.reduceLeDiff, Nat.reduceSub, Int.reduceEq, Nat.reduceBEq, evB, tyA, hO, hm]; (repeat (with_reducible refine And.intro ?_ ?_; exact sdX))
    refine callVC_mk fnok22 (c_MLive h st hst F hF (by omega) hk) rfl ?_
    simp (maxSteps := 4000000) only [↓reduceIte, Nat.reduceLT, Nat.reduceEqDiff, reduceCtorEq, Nat.reduceAdd, Nat.reduceMul, Int.reduceLE, Int.reduceLT, Int.reduceToNat, Nat.reduceLeDiff, Nat.reduceSub, Int.reduceEq, Nat.reduceBEq, evB, tyA, hO, hm]; (repeat (with_reducible refine And.intro ?_ ?_; exact sdX))
    refine mkS_le rfl ?_ ?_
    · exact evX
    · exact evX
  · refine specO_call (ids := []) (p := True) (args := [.agg [i64 L, i64 st, .sl false (bos F), .sl false (iis N)], .sl false (bos (liveL F N)), i64 st, i64 n, .sl true [], .fn (.yield l) 0 []]) (T := mkS 16 [] []) hs rfl fnok21 rfl (by simp (maxSteps := 4000000) only [↓reduceIte, Nat.reduceLT, Nat.reduceEqDiff, reduceCtorEq, Nat.reduceAdd, Nat.reduceMul, Int.reduceLE, Int.reduceLT, Int.reduceToNat, Nat.reduceLeDiff, Nat.reduceSub, Int.reduceEq, Nat.reduceBEq, evB]; rfl) trivial hc (bare_mk rfl trivial rfl) rfl (fun r g' hr => ⟨by
      rcases hr with ⟨_, q⟩ | ⟨_, q⟩
      · exact .inl q
      · exact .inr q, r, rfl⟩)
  · rintro g' s' ⟨hg, r, rfl⟩
    simp (maxSteps := 4000000) only [↓reduceIte, Nat.reduceLT, Nat.reduceEqDiff, reduceCtorEq, Nat.reduceAdd, Nat.reduceMul, Int.reduceLE, Int.reduceLT, Int.reduceToNat, Nat.reduceLeDiff, Nat.reduceSub, Int.reduceEq, Nat.reduceBEq, evB, tyA, List.drop_succ_cons, List.drop_zero]
    (repeat (with_reducible refine And.intro ?_ ?_; exact sdX))
    exact ⟨_, rfl, rfl, hg⟩
theorem c_MayZ : Contract Try.prog 20 [.agg [i64 0, i64 0, .sl true [], .sl true []]] (bo false) [] := by
  refine contract_of_awp (rs := [2]) Try.func20 rfl Try.ntmps20 (by simp) rfl fun E => ?_
  have a1 : decide ((0 : Int) < 0) = false := rfl
  have a2 : (((0 : Nat) : Int) != ((0 : Nat) : Int)) = false := rfl
  have a3 : ((0 : Int) != 0) = false := rfl
  have a4 : decide (((0 : Nat) : Int) < 1) = true := rfl
  have a5 : decide ((0 : Int) < 1) = true := rfl
  (repeat (first | refine awp_seq ?_ | refine awp_block ?_ | ((first | refine awp_skip ?_ | refine awp_exit ?_ | refine awp_reg ttok ?_ | (refine awp_draw ttok ?dr_calm ?_; (case dr_calm => decide +kernel)) | refine awp_condM ?_); simp (maxSteps := 4000000) only [↓reduceIte, Nat.reduceLT, Nat.reduceEqDiff, reduceCtorEq, Nat.reduceAdd, Nat.reduceMul, Int.reduceLE, Int.reduceLT, Int.reduceToNat, Nat.reduceLeDiff, Nat.reduceSub, Int.reduceEq, Nat.reduceBEq, evB, tyA, a1, a2, a3, a4, a5]; (repeat (with_reducible refine And.intro ?_ ?_; exact sdX)); (with_reducible first | refine awp_id ?_ | refine id_call ?_ | refine id_and ?_ | refine id_ex ?_ | refine id_all ?_ | refine id_nat ?_ | refine id_le ?_))))
  exact awp_ret (ends_plain (.inr rfl) rfl evX)
theorem c_All1Z (most : Int) : IterC Try.prog 19 [.ref [i64 0, i64 0, .sl true [], .sl true []] 0, .ref [i64 most] 0] (fun x => .sl false (ints x)) [] := by
  intro l J hs hY
  refine gcalls_of_ywp (rs := []) hs Try.func19 rfl Try.ntmps19 (by simp) rfl fun Ib => ?_
  refine ywp_seq (ywp_reg ttok ?_)
  simp (maxSteps := 4000000) only [↓reduceIte, Nat.reduceLT, Nat.reduceEqDiff, reduceCtorEq, Nat.reduceAdd, Nat.reduceMul, Int.reduceLE, Int.reduceLT, Int.reduceToNat, Nat.reduceLeDiff, Nat.reduceSub, Int.reduceEq, Nat.reduceBEq, evB, tyA, thenY_n]
  (repeat (with_reducible refine And.intro ?_ ?_; exact sdX))
  refine callVC_scal fnok20 c_MayZ rfl ?_
  simp (maxSteps := 4000000) only [↓reduceIte, Nat.reduceLT, Nat.reduceEqDiff, reduceCtorEq, Nat.reduceAdd, Nat.reduceMul, Int.reduceLE, Int.reduceLT, Int.reduceToNat, Nat.reduceLeDiff, Nat.reduceSub, Int.reduceEq, Nat.reduceBEq, evB, tyA, thenY_n]
  (repeat (with_reducible refine And.intro ?_ ?_; exact sdX))
  refine ywp_cond (t := false) evX (fun q => by cases q) (fun _ => ywp_skip ?_)
  exact ⟨.inl rfl, .tup [], rfl, rfl, .inl rfl⟩
theorem c_All (L st : Int) (x y : Bool) (A B : List (List D)) (most : Int) : Contract Try.prog 11 [.agg [i64 L, i64 st, .sl x A, .sl y B], i64 most] (.fn (.func 19) 0 [.ref [i64 L, i64 st, .sl x A, .sl y B] 0, .ref [i64 most] 0]) [] := by
  refine contract_of_awp (rs := [4]) Try.func11 rfl Try.ntmps11 (by simp) rfl fun E => ?_
  (repeat (first | refine awp_seq ?_ | refine awp_block ?_ | ((first | refine awp_skip ?_ | refine awp_exit ?_ | refine awp_reg ttok ?_ | (refine awp_draw ttok ?dr_calm ?_; (case dr_calm => decide +kernel)) | refine awp_condM ?_); simp (maxSteps := 4000000) only [↓reduceIte, Nat.reduceLT, Nat.reduceEqDiff, reduceCtorEq, Nat.reduceAdd, Nat.reduceMul, Int.reduceLE, Int.reduceLT, Int.reduceToNat, Nat.reduceLeDiff, Nat.reduceSub, Int.reduceEq, Nat.reduceBEq, evB, tyA]; (repeat (with_reducible refine And.intro ?_ ?_; exact sdX)); (with_reducible first | refine awp_id ?_ | refine id_call ?_ | refine id_and ?_ | refine id_ex ?_ | refine id_all ?_ | refine id_nat ?_ | refine id_le ?_))))
  refine awp_pure 4 (d := .fn (.func 19) 0 [.ptr 1000 0 0, .ptr 1001 0 0]) evX (by simp (maxSteps := 4000000) only [↓reduceIte, Nat.reduceLT, Nat.reduceEqDiff, reduceCtorEq, Nat.reduceAdd, Nat.reduceMul, Int.reduceLE, Int.reduceLT, Int.reduceToNat, Nat.reduceLeDiff, Nat.reduceSub, Int.reduceEq, Nat.reduceBEq, evB]; rfl) evX ?_
  exact awp_ret (ends_plain (.inr rfl) rfl evX)
end Go.Proofs.Ytglcnghfmdcdpaa
