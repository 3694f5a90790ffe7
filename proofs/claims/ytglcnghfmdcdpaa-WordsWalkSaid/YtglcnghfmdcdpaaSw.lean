import Derived.Test.YtglcnghfmdcdpaaAbY
import Derived.Test.YtglcnghfmdcdpaaSl
import Derived.Test.YtglcnghfmdcdpaaLv
set_option linter.unusedSimpArgs false
set_option linter.unusedVariables false
namespace Go.Proofs.Ytglcnghfmdcdpaa
open Go.Ab
def goK (N : List (List Int)) (V : List Bool) (s k : Nat) : Bool := decide ((N.getD s []).getD k 0 ≥ 0) && V.getD ((N.getD s []).getD k 0).toNat false
def fromL (F : List Bool) (N : List (List Int)) (V : List Bool) : Nat → Nat → List Int → List (List Int)
  | 0, s, w => if F.getD s false then [w] else []
  | n + 1, s, w => (if F.getD s false then [w] else []) ++ (List.range (N.getD s []).length).flatMap fun k => if goK N V s k then fromL F N V n ((N.getD s []).getD k 0).toNat (w ++ [(k : Int)]) else []
def fromK (F : List Bool) (N : List (List Int)) (V : List Bool) (n s : Nat) (w : List Int) (k : Nat) : List (List Int) := (if F.getD s false then [w] else []) ++ (List.range k).flatMap fun k => if goK N V s k then fromL F N V n ((N.getD s []).getD k 0).toNat (w ++ [(k : Int)]) else []
theorem fromK_succ {F : List Bool} {N : List (List Int)} {V : List Bool} {n s : Nat} {w : List Int} {k : Nat} : fromK F N V n s w (k + 1) = fromK F N V n s w k ++ if goK N V s k then fromL F N V n ((N.getD s []).getD k 0).toNat (w ++ [(k : Int)]) else [] := by
  simp [fromK, List.range_succ, List.flatMap_append]
theorem fromK_le {F : List Bool} {N : List (List Int)} {V : List Bool} {n s : Nat} {w : List Int} {k m : Nat} (h : k ≤ m) : fromK F N V n s w k <+: fromK F N V n s w m := by
  induction m with
  | zero => rw [show k = 0 by omega]; exact List.prefix_refl _
  | succ m ih =>
    rcases Nat.lt_or_ge k (m + 1) with q | q
    · exact (ih (by omega)).trans (by rw [fromK_succ]; exact List.prefix_append _ _)
    · rw [show k = m + 1 by omega]; exact List.prefix_refl _
theorem getD_memI {l : List Int} {i : Nat} (h : i < l.length) : l.getD i 0 ∈ l := by
  rw [List.getD_eq_getElem?_getD, List.getElem?_eq_getElem h]; exact List.getElem_mem _
section
variable (J : Bool × List (List Int) → World → Imm → Prop) (hs : ∀ g, Stable (J g)) (l : Nat) (xs : List (List Int))
    (hY : ∀ pre x, pre ++ [x] <+: xs → GYield Try.prog J l [.sl false (ints x)] (true, pre) (fun r g' => (r = .v (.bool true) ∧ g' = (true, pre ++ [x])) ∨ (r = .v (.bool false) ∧ g' = (false, pre ++ [x]))))
include hs hY
set_option maxHeartbeats 16000000 in
theorem c_from {L k : Nat} {N : List (List Int)} (h : NOk L k N) (hL : L ≤ 1000) (hk : 1 ≤ k ∧ k ≤ 2000) (st : Nat) (F V : List Bool) (hF : F.length = k) (hV : V.length = k) :
    ∀ (n s : Nat) (f : Bool) (w : List Int) (pre : List (List Int)), s < k → n + w.length ≤ 1000 → pre ++ fromL F N V n s w <+: xs →
      GCalls Try.prog J 21 [dfaD L st F N, .sl false (bos V), i64 s, i64 n, .sl f (ints w), .fn (.yield l) 0 []] (true, pre)
        (fun r g' => (r = .v (.bool true) ∧ g' = (true, pre ++ fromL F N V n s w)) ∨ (r = .v (.bool false) ∧ ∃ q, q <+: xs ∧ g' = (false, q))) := by
  have main : ∀ n, (∀ m, n = m + 1 → ∀ (s : Nat) (f : Bool) (w : List Int) (pre : List (List Int)), s < k → m + w.length ≤ 1000 → pre ++ fromL F N V m s w <+: xs →
      GCalls Try.prog J 21 [dfaD L st F N, .sl false (bos V), i64 s, i64 m, .sl f (ints w), .fn (.yield l) 0 []] (true, pre)
        (fun r g' => (r = .v (.bool true) ∧ g' = (true, pre ++ fromL F N V m s w)) ∨ (r = .v (.bool false) ∧ ∃ q, q <+: xs ∧ g' = (false, q)))) →
      ∀ (s : Nat) (f : Bool) (w : List Int) (pre : List (List Int)), s < k → n + w.length ≤ 1000 → pre ++ fromL F N V n s w <+: xs →
      GCalls Try.prog J 21 [dfaD L st F N, .sl false (bos V), i64 s, i64 n, .sl f (ints w), .fn (.yield l) 0 []] (true, pre)
        (fun r g' => (r = .v (.bool true) ∧ g' = (true, pre ++ fromL F N V n s w)) ∨ (r = .v (.bool false) ∧ ∃ q, q <+: xs ∧ g' = (false, q))) := by
    intro n ih s f w pre hsk hn hx
    refine gcalls_of_ywp (rs := [12]) hs Try.func21 rfl Try.ntmps21 (by simp) rfl fun Ib => ?_
    have hl := h.len
    have hFs : s < F.length := by omega
    obtain ⟨fin, hfin⟩ : ∃ b, F.getD s false = b := ⟨_, rfl⟩
    have hgF := bos_get hFs
    rw [hfin] at hgF
    have g1 : (0 : Int) ≤ (s : Int) ∧ (s : Int) < (F.length : Int) := ⟨by omega, by omega⟩
    have hxK : pre ++ fromK F N V n s w 0 <+: xs := by
      refine List.IsPrefix.trans ?_ hx
      refine (List.prefix_append_right_inj pre).2 ?_
      cases n with
      | zero => simp [fromK, fromL]
      | succ n => simp [fromK, fromL]
    have hK0 : fromK F N V n s w 0 = if fin then [w] else [] := by simp only [fromK, hfin]; simp
    rw [hK0] at hxK
    (refine ywp_seq (ywp_reg ttok ?_); simp (maxSteps := 4000000) only [↓reduceIte, Nat.reduceLT, Nat.reduceEqDiff, reduceCtorEq, Nat.reduceAdd, Nat.reduceMul, Int.reduceLE, Int.reduceLT, Int.reduceToNat, Nat.reduceLeDiff, Nat.reduceSub, Int.reduceEq, Nat.reduceBEq, evB, tyA, thenY_n, dfaD]; (repeat (with_reducible refine And.intro ?_ ?_; exact sdX)))
    refine ywp_pure 6 (d := .ptr 1000 0 0) evX (by simp (maxSteps := 4000000) only [↓reduceIte, Nat.reduceLT, Nat.reduceEqDiff, reduceCtorEq, Nat.reduceAdd, Nat.reduceMul, Int.reduceLE, Int.reduceLT, Int.reduceToNat, Nat.reduceLeDiff, Nat.reduceSub, Int.reduceEq, Nat.reduceBEq, evB]; rfl) evX ?_
    refine ywp_le (st' := mkS 68 [(1, .sl false (bos V)), (2, i64 s), (3, i64 n), (4, .sl f (ints w)), (5, .fn (.yield l) 0 []), (6, .ref [i64 L, i64 st, .sl false (bos F), .sl false (iis N)] 0), (12, bo false)] []) ?_ (mkS_le rfl ?_ ?_)
    rotate_left
    · exact evX
    · exact evX
    refine ywp_seqJ (mkS 68 [(1, .sl false (bos V)), (2, i64 s), (3, i64 n), (4, .sl f (ints w)), (5, .fn (.yield l) 0 []), (6, .ref [i64 L, i64 st, .sl false (bos F), .sl false (iis N)] 0), (12, bo false)] []) (true, pre ++ if fin then [w] else []) ?_ ?_
    · cases fin
      · (refine ywp_seq (ywp_reg ttok ?_); simp (maxSteps := 4000000) only [↓reduceIte, Nat.reduceLT, Nat.reduceEqDiff, reduceCtorEq, Nat.reduceAdd, Nat.reduceMul, Int.reduceLE, Int.reduceLT, Int.reduceToNat, Nat.reduceLeDiff, Nat.reduceSub, Int.reduceEq, Nat.reduceBEq, evB, tyA, thenY_n, hgF, bos_len]; (repeat (with_reducible refine And.intro ?_ ?_; exact sdX)))
        refine ywp_cond (t := false) evX (fun q => by cases q) (fun _ => ywp_skip ?_)
        refine ⟨by simp, mkS_le rfl ?_ ?_⟩
        · exact evX
        · exact evX
      · refine ywp_seq (ywp_regS ttok 9 (mkS 68 [(1, .sl false (bos V)), (2, i64 s), (3, i64 n), (4, .sl f (ints w)), (5, .fn (.yield l) 0 []), (6, .ref [i64 L, i64 st, .sl false (bos F), .sl false (iis N)] 0), (12, bo false), (20, bo true), (21, .fn (.yield l) 0 []), (23, .own 102008 0 w.length)] [(102008, { sz := 1, rows := ints w })])
          (K2 := fun g' s' => ∃ r, ((r = .v (.bool true) ∧ g' = (true, pre ++ [w])) ∨ (r = .v (.bool false) ∧ g' = (false, pre ++ [w]))) ∧ s' = (mkS 68 [(1, .sl false (bos V)), (2, i64 s), (3, i64 n), (4, .sl f (ints w)), (5, .fn (.yield l) 0 []), (6, .ref [i64 L, i64 st, .sl false (bos F), .sl false (iis N)] 0), (12, bo false), (20, bo true)] []).put (some 24) r) rfl rfl ?_ ?_ ?_)
        · simp (maxSteps := 4000000) only [↓reduceIte, Nat.reduceLT, Nat.reduceEqDiff, reduceCtorEq, Nat.reduceAdd, Nat.reduceMul, Int.reduceLE, Int.reduceLT, Int.reduceToNat, Nat.reduceLeDiff, Nat.reduceSub, Int.reduceEq, Nat.reduceBEq, evB, tyA, hgF, bos_len, List.take_succ_cons, List.take_zero]
          (repeat (with_reducible refine And.intro ?_ ?_; exact sdX))
          refine callVC_mk fnok28 (c_CloneI f w (by omega)) rfl ?_
          simp (maxSteps := 4000000) only [↓reduceIte, Nat.reduceLT, Nat.reduceEqDiff, reduceCtorEq, Nat.reduceAdd, Nat.reduceMul, Int.reduceLE, Int.reduceLT, Int.reduceToNat, Nat.reduceLeDiff, Nat.reduceSub, Int.reduceEq, Nat.reduceBEq, evB, tyA]
          (repeat (with_reducible refine And.intro ?_ ?_; exact sdX))
          refine mkS_le rfl ?_ ?_
          · exact evX
          · exact evX
        · refine specI_yield (ids := [102008]) (p := w.length ≤ (ints w).length) (T := mkS 68 [(1, .sl false (bos V)), (2, i64 s), (3, i64 n), (4, .sl f (ints w)), (5, .fn (.yield l) 0 []), (6, .ref [i64 L, i64 st, .sl false (bos F), .sl false (iis N)] 0), (12, bo false), (20, bo true)] []) hs rfl rfl rfl evX (by simp (maxSteps := 4000000) only [↓reduceIte, Nat.reduceLT, Nat.reduceEqDiff, reduceCtorEq, Nat.reduceAdd, Nat.reduceMul, Int.reduceLE, Int.reduceLT, Int.reduceToNat, Nat.reduceLeDiff, Nat.reduceSub, Int.reduceEq, Nat.reduceBEq, evB]; rfl) (by simp (maxSteps := 4000000) only [↓reduceIte, Nat.reduceLT, Nat.reduceEqDiff, reduceCtorEq, Nat.reduceAdd, Nat.reduceMul, Int.reduceLE, Int.reduceLT, Int.reduceToNat, Nat.reduceLeDiff, Nat.reduceSub, Int.reduceEq, Nat.reduceBEq, evB, ints_take, List.take_length]) (by rw [ints_len]; exact Nat.le_refl _) (hY pre w (by simpa using hxK)) (bare_mk rfl evX rfl) rfl (fun r g' hr => ⟨r, hr, rfl⟩)
        · rintro g' s' ⟨r, hr | hr, rfl⟩
          · obtain ⟨rfl, rfl⟩ := hr
            simp (maxSteps := 4000000) only [↓reduceIte, Nat.reduceLT, Nat.reduceEqDiff, reduceCtorEq, Nat.reduceAdd, Nat.reduceMul, Int.reduceLE, Int.reduceLT, Int.reduceToNat, Nat.reduceLeDiff, Nat.reduceSub, Int.reduceEq, Nat.reduceBEq, evB, tyA, List.drop_succ_cons, List.drop_zero, thenY_n]
            (repeat (with_reducible refine And.intro ?_ ?_; exact sdX))
            refine ywp_cond (t := false) evX (fun q => by cases q) (fun _ => ywp_skip ?_)
            refine ⟨by simp, mkS_le rfl ?_ ?_⟩
            · exact evX
            · exact evX
          · obtain ⟨rfl, rfl⟩ := hr
            simp (maxSteps := 4000000) only [↓reduceIte, Nat.reduceLT, Nat.reduceEqDiff, reduceCtorEq, Nat.reduceAdd, Nat.reduceMul, Int.reduceLE, Int.reduceLT, Int.reduceToNat, Nat.reduceLeDiff, Nat.reduceSub, Int.reduceEq, Nat.reduceBEq, evB, tyA, List.drop_succ_cons, List.drop_zero, thenY_n]
            (repeat (with_reducible refine And.intro ?_ ?_; exact sdX))
            refine ywp_cond (t := true) evX (fun _ => ?_) (fun q => by cases q)
            (refine ywp_seq (ywp_reg ttok ?_); simp (maxSteps := 4000000) only [↓reduceIte, Nat.reduceLT, Nat.reduceEqDiff, reduceCtorEq, Nat.reduceAdd, Nat.reduceMul, Int.reduceLE, Int.reduceLT, Int.reduceToNat, Nat.reduceLeDiff, Nat.reduceSub, Int.reduceEq, Nat.reduceBEq, evB, tyA, thenY_n]; (repeat (with_reducible refine And.intro ?_ ?_; exact sdX)))
            refine ywp_ret ?_
            exact ⟨.inr rfl, bo false, by simp (maxSteps := 4000000) only [↓reduceIte, Nat.reduceLT, Nat.reduceEqDiff, reduceCtorEq, Nat.reduceAdd, Nat.reduceMul, Int.reduceLE, Int.reduceLT, Int.reduceToNat, Nat.reduceLeDiff, Nat.reduceSub, Int.reduceEq, Nat.reduceBEq, evB], rfl, .inr ⟨rfl, pre ++ [w], by simpa using hxK, rfl⟩⟩
    · cases n with
      | zero =>
        have z1 : (((0 : Nat) : Int) == 0) = true := rfl
        refine ywp_seq ?_
        (refine ywp_seq (ywp_reg ttok ?_); simp (maxSteps := 4000000) only [↓reduceIte, Nat.reduceLT, Nat.reduceEqDiff, reduceCtorEq, Nat.reduceAdd, Nat.reduceMul, Int.reduceLE, Int.reduceLT, Int.reduceToNat, Nat.reduceLeDiff, Nat.reduceSub, Int.reduceEq, Nat.reduceBEq, evB, tyA, thenY_n, z1]; (repeat (with_reducible refine And.intro ?_ ?_; exact sdX)))
        refine ywp_cond (t := true) evX (fun _ => ?_) (fun q => by cases q)
        (refine ywp_seq (ywp_reg ttok ?_); simp (maxSteps := 4000000) only [↓reduceIte, Nat.reduceLT, Nat.reduceEqDiff, reduceCtorEq, Nat.reduceAdd, Nat.reduceMul, Int.reduceLE, Int.reduceLT, Int.reduceToNat, Nat.reduceLeDiff, Nat.reduceSub, Int.reduceEq, Nat.reduceBEq, evB, tyA, thenY_n]; (repeat (with_reducible refine And.intro ?_ ?_; exact sdX)))
        refine ywp_ret ?_
        exact ⟨.inr rfl, bo true, by simp (maxSteps := 4000000) only [↓reduceIte, Nat.reduceLT, Nat.reduceEqDiff, reduceCtorEq, Nat.reduceAdd, Nat.reduceMul, Int.reduceLE, Int.reduceLT, Int.reduceToNat, Nat.reduceLeDiff, Nat.reduceSub, Int.reduceEq, Nat.reduceBEq, evB], rfl, .inl ⟨rfl, by rw [fromL, hfin]⟩⟩
      | succ m =>
        have z1 : (((m + 1 : Nat) : Int) == 0) = false := by simp; omega
        obtain ⟨hrl, hrt⟩ := h.get hsk
        have hfL : fromL F N V (m + 1) s w = fromK F N V m s w L := by rw [fromL, fromK, hrl]
        have hKm : fromK F N V m s w 0 = if fin then [w] else [] := by
          have : fromK F N V m s w 0 = fromK F N V (m + 1) s w 0 := by simp [fromK]
          rw [this, hK0]
        have hsN : s < N.length := by omega
        have hgN := iis_get hsN
        have g2 : (0 : Int) ≤ (s : Int) ∧ (s : Int) < (N.length : Int) := ⟨by omega, by omega⟩
        refine ywp_seq ?_
        (refine ywp_seq (ywp_reg ttok ?_); simp (maxSteps := 4000000) only [↓reduceIte, Nat.reduceLT, Nat.reduceEqDiff, reduceCtorEq, Nat.reduceAdd, Nat.reduceMul, Int.reduceLE, Int.reduceLT, Int.reduceToNat, Nat.reduceLeDiff, Nat.reduceSub, Int.reduceEq, Nat.reduceBEq, evB, tyA, thenY_n, z1]; (repeat (with_reducible refine And.intro ?_ ?_; exact sdX)))
        refine ywp_cond (t := false) evX (fun q => by cases q) (fun _ => ywp_skip ?_)
        rw [thenY_n]
        refine ywp_seq ?_
        (refine ywp_seq (ywp_reg ttok ?_); simp (maxSteps := 4000000) only [↓reduceIte, Nat.reduceLT, Nat.reduceEqDiff, reduceCtorEq, Nat.reduceAdd, Nat.reduceMul, Int.reduceLE, Int.reduceLT, Int.reduceToNat, Nat.reduceLeDiff, Nat.reduceSub, Int.reduceEq, Nat.reduceBEq, evB, tyA, thenY_n, hgN, iis_len, ints_len, hrl]; (repeat (with_reducible refine And.intro ?_ ?_; exact sdX)))
        refine ywp_block (ywp_loop (X := Nat) (fun i => mkS 68 [(1, .sl false (bos V)), (2, i64 s), (3, i64 ((m + 1 : Nat) : Int)), (4, .sl f (ints w)), (5, .fn (.yield l) 0 []), (6, .ref [i64 L, i64 st, .sl false (bos F), .sl false (iis N)] 0), (12, bo false), (33, .sl false (ints (N.getD s []))), (34, i64 L), (35, i64 i)] []) (fun i => (true, pre ++ fromK F N V m s w i)) (fun i => i ≤ L) (fun i => L - i) 0 (Nat.zero_le _) (by rw [hKm]) (mkS_le rfl ?_ ?_) ?_)
        · simp (maxSteps := 4000000) only [↓reduceIte, Nat.reduceLT, Nat.reduceEqDiff, reduceCtorEq, Nat.reduceAdd, Nat.reduceMul, Int.reduceLE, Int.reduceLT, Int.reduceToNat, Nat.reduceLeDiff, Nat.reduceSub, Int.reduceEq, Nat.reduceBEq, evB]
          try rfl
        · exact evX
        intro i hi
        by_cases hlt : i < L
        · have d1 : decide ((i : Int) < (L : Int)) = true := by simpa using hlt
          have hiw : i < (N.getD s []).length := by omega
          have hgi := ints_get hiw
          have hwi : IntKind.i64.wrap ((i : Int) + 1) = ((i + 1 : Nat) : Int) := i64_in (by omega) (by omega)
          have hwm : IntKind.i64.wrap (((m + 1 : Nat) : Int) - 1) = ((m : Nat) : Int) := by
            rw [show ((m + 1 : Nat) : Int) - 1 = ((m : Nat) : Int) by omega]; exact i64_in (by omega) (by omega)
          have hmem : (N.getD s []).getD i 0 ∈ N.getD s [] := getD_memI hiw
          have hb := hrt _ hmem
          obtain ⟨v, hv⟩ : ∃ v, (N.getD s []).getD i 0 = v := ⟨_, rfl⟩
          rw [hv] at hgi hb
          have g3 : (0 : Int) ≤ (i : Int) ∧ (i : Int) < ((N.getD s []).length : Int) := ⟨by omega, by omega⟩
          (refine ywp_seq (ywp_reg ttok ?_); simp (maxSteps := 4000000) only [↓reduceIte, Nat.reduceLT, Nat.reduceEqDiff, reduceCtorEq, Nat.reduceAdd, Nat.reduceMul, Int.reduceLE, Int.reduceLT, Int.reduceToNat, Nat.reduceLeDiff, Nat.reduceSub, Int.reduceEq, Nat.reduceBEq, evB, tyA, thenY_n, d1]; (repeat (with_reducible refine And.intro ?_ ?_; exact sdX)))
          refine ywp_seq (ywp_cond (t := true) evX (fun _ => ywp_skip ?_) (fun q => by cases q))
          rw [thenY_n]
          refine ywp_seqJ (mkS 68 [(1, .sl false (bos V)), (2, i64 s), (3, i64 ((m + 1 : Nat) : Int)), (4, .sl f (ints w)), (5, .fn (.yield l) 0 []), (6, .ref [i64 L, i64 st, .sl false (bos F), .sl false (iis N)] 0), (12, bo false), (33, .sl false (ints (N.getD s []))), (34, i64 L), (35, i64 i)] []) (true, pre ++ fromK F N V m s w (i + 1)) (ywp_block ?_) ?_
          · (refine ywp_seq (ywp_reg ttok ?_); simp (maxSteps := 4000000) only [↓reduceIte, Nat.reduceLT, Nat.reduceEqDiff, reduceCtorEq, Nat.reduceAdd, Nat.reduceMul, Int.reduceLE, Int.reduceLT, Int.reduceToNat, Nat.reduceLeDiff, Nat.reduceSub, Int.reduceEq, Nat.reduceBEq, evB, tyA, thenY_n, hgi, ints_len, hrl]; (repeat (with_reducible refine And.intro ?_ ?_; exact sdX)))
            have hno : goK N V s i = false → fromK F N V m s w (i + 1) = fromK F N V m s w i := fun q => by rw [fromK_succ, q]; simp
            by_cases h0 : 0 ≤ v
            · obtain ⟨u, rfl⟩ := Int.eq_ofNat_of_zero_le h0
              have hu : u < V.length := by omega
              have hgV := bos_get hu
              obtain ⟨bv, hbv⟩ : ∃ b, V.getD u false = b := ⟨_, rfl⟩
              rw [hbv] at hgV
              have e1 : decide ((u : Int) ≥ 0) = true := by simp
              have hgo : goK N V s i = bv := by
                unfold goK; rw [hv, e1]; simpa using hbv
              cases bv
              · refine ywp_seq (ywp_draw ttok 24 (mkS 68 [(1, .sl false (bos V)), (2, i64 s), (3, i64 ((m + 1 : Nat) : Int)), (4, .sl f (ints w)), (5, .fn (.yield l) 0 []), (6, .ref [i64 L, i64 st, .sl false (bos F), .sl false (iis N)] 0), (12, bo false), (33, .sl false (ints (N.getD s []))), (34, i64 L), (35, i64 i), (48, bo false)] []) ((0, none) :: (1, none) :: (2, none) :: (3, none) :: (4, none) :: (5, none) :: (6, none) :: (7, none) :: (8, none) :: (9, none) :: (10, none) :: (11, none) :: (12, none) :: (13, none) :: (14, none) :: (15, none) :: (16, none) :: (17, none) :: (18, none) :: (19, none) :: (20, none) :: (23, none) :: (21, some [9, 10, 11, 12, 13, 14, 15, 16, 17, 18, 19, 23]) :: (22, some [9, 10, 11, 12, 13, 23]) :: []) [0, 1, 2, 3, 4, 5, 6, 7, 8, 9, 10, 11, 12, 13, 14, 15, 16, 17, 18, 19, 20, 23, 21, 22, 24, 25, 26] [] [] (K2 := fun g' s' => g' = (true, pre ++ fromK F N V m s w i) ∧ s' = (mkS 68 [(1, .sl false (bos V)), (2, i64 s), (3, i64 ((m + 1 : Nat) : Int)), (4, .sl f (ints w)), (5, .fn (.yield l) 0 []), (6, .ref [i64 L, i64 st, .sl false (bos F), .sl false (iis N)] 0), (12, bo false), (33, .sl false (ints (N.getD s []))), (34, i64 L), (35, i64 i), (48, bo false)] []).put (some 64) (.v (.tuple #[]))) rfl (by decide +kernel) (fun O hO => ?_) ?_ ?_)
                · simp only [OpsAre, Nat.reduceAdd, and_true, List.toList_toArray, List.append_eq, List.cons_append, List.nil_append, List.take_succ_cons, List.take_zero] at hO
                  simp (maxSteps := 4000000) only [↓reduceIte, Nat.reduceLT, Nat.reduceEqDiff, reduceCtorEq, Nat.reduceAdd, Nat.reduceMul, Int.reduceLE, Int.reduceLT, Int.reduceToNat, Nat.reduceLeDiff, Nat.reduceSub, Int.reduceEq, Nat.reduceBEq, evB, tyA, hO, e1, hgV, bos_len]; (repeat (with_reducible refine And.intro ?_ ?_; exact sdX))
                  refine mkS_le rfl ?_ ?_
                  · exact evX
                  · exact evX
                · exact .inl ⟨rfl, rfl, rfl, rfl⟩
                · rintro g' s' ⟨rfl, rfl⟩
                  simp (maxSteps := 4000000) only [↓reduceIte, Nat.reduceLT, Nat.reduceEqDiff, reduceCtorEq, Nat.reduceAdd, Nat.reduceMul, Int.reduceLE, Int.reduceLT, Int.reduceToNat, Nat.reduceLeDiff, Nat.reduceSub, Int.reduceEq, Nat.reduceBEq, evB, tyA, List.drop_succ_cons, List.drop_zero, thenY_n]
                  (repeat (with_reducible refine And.intro ?_ ?_; exact sdX))
                  refine ywp_cond (t := false) evX (fun q => by cases q) (fun _ => ywp_skip ?_)
                  simp only [blockY_n, joinY_n]
                  refine ⟨by rw [hno hgo], mkS_le rfl ?_ ?_⟩
                  · exact evX
                  · exact evX
              · have hxi : pre ++ fromK F N V m s w i ++ fromL F N V m u (w ++ [(i : Int)]) <+: xs := by
                  have e : fromK F N V m s w i ++ fromL F N V m u (w ++ [(i : Int)]) = fromK F N V m s w (i + 1) := by
                    rw [fromK_succ, hgo, hv]; simp
                  rw [List.append_assoc, e]
                  refine List.IsPrefix.trans ?_ hx
                  rw [hfL]
                  exact (List.prefix_append_right_inj pre).2 (fromK_le (by omega))
                have e2 : pre ++ fromK F N V m s w i ++ fromL F N V m u (w ++ [(i : Int)]) = pre ++ fromK F N V m s w (i + 1) := by
                  rw [fromK_succ, hgo, hv]; simp
                have y1 : ints w ++ [[i64 (i : Int)]] = ints (w ++ [(i : Int)]) := by simp [ints]
                have y4 : (∀ row ∈ [[i64 (i : Int)]], row.length = 1) = True := by simp
                have y2 : (ints w).take w.length = ints w := List.take_of_length_le (by rw [ints_len]; exact Nat.le_refl _)
                have hc := ih m rfl u false (w ++ [(i : Int)]) (pre ++ fromK F N V m s w i) (by omega) (by simp; omega) hxi
                refine ywp_seq (ywp_draw ttok 24 (mkS 68 [(1, .sl false (bos V)), (2, i64 s), (3, i64 ((m + 1 : Nat) : Int)), (4, .sl f (ints w)), (5, .fn (.yield l) 0 []), (6, .ref [i64 L, i64 st, .sl false (bos F), .sl false (iis N)] 0), (12, bo false), (33, .sl false (ints (N.getD s []))), (34, i64 L), (35, i64 i), (48, bo true), (49, .agg [i64 L, i64 st, .sl false (bos F), .sl false (iis N)]), (50, .sl false (bos V)), (51, i64 u), (53, i64 m), (62, .own 9022 0 (w.length + 1)), (63, .fn (.yield l) 0 [])] [(9022, { sz := 1, rows := ints (w ++ [(i : Int)]) })]) ((0, none) :: (1, none) :: (2, none) :: (3, none) :: (4, none) :: (5, none) :: (6, none) :: (7, none) :: (8, none) :: (9, none) :: (10, none) :: (11, none) :: (12, none) :: (13, none) :: (14, none) :: (15, none) :: (16, none) :: (17, none) :: (18, none) :: (19, none) :: (20, none) :: (23, none) :: (21, some [9, 10, 11, 12, 13, 14, 15, 16, 17, 18, 19, 23]) :: (22, some [9, 10, 11, 12, 13, 23]) :: []) [0, 1, 2, 3, 4, 5, 6, 7, 8, 9, 10, 11, 12, 13, 14, 15, 16, 17, 18, 19, 20, 23, 21, 22, 24, 25, 26] [] []
                  (K2 := fun g' s' => ∃ r, ((r = .v (.bool true) ∧ g' = (true, pre ++ fromK F N V m s w i ++ fromL F N V m u (w ++ [(i : Int)]))) ∨ (r = .v (.bool false) ∧ ∃ q, q <+: xs ∧ g' = (false, q))) ∧ s' = (mkS 68 [(1, .sl false (bos V)), (2, i64 s), (3, i64 ((m + 1 : Nat) : Int)), (4, .sl f (ints w)), (5, .fn (.yield l) 0 []), (6, .ref [i64 L, i64 st, .sl false (bos F), .sl false (iis N)] 0), (12, bo false), (33, .sl false (ints (N.getD s []))), (34, i64 L), (35, i64 i), (48, bo true)] []).put (some 64) r) rfl (by decide +kernel) (fun O hO => ?_) ?_ ?_)
                · simp only [OpsAre, Nat.reduceAdd, and_true, List.toList_toArray, List.append_eq, List.cons_append, List.nil_append, List.take_succ_cons, List.take_zero] at hO
                  simp (maxSteps := 4000000) only [↓reduceIte, Nat.reduceLT, Nat.reduceEqDiff, reduceCtorEq, Nat.reduceAdd, Nat.reduceMul, Int.reduceLE, Int.reduceLT, Int.reduceToNat, Nat.reduceLeDiff, Nat.reduceSub, Int.reduceEq, Nat.reduceBEq, evB, tyA, hO, e1, hgV, bos_len, hwm, y1, y2, y4, ints_len, ints_ex]; (repeat (with_reducible refine And.intro ?_ ?_; exact sdX))
                  refine mkS_le rfl ?_ ?_
                  · exact evX
                  · exact evX
                · refine specO_call (ids := [9022]) (p := w.length + 1 ≤ (ints (w ++ [(i : Int)])).length) (args := [.agg [i64 L, i64 st, .sl false (bos F), .sl false (iis N)], .sl false (bos V), i64 u, i64 m, .own 9022 0 (w.length + 1), .fn (.yield l) 0 []]) (T := mkS 68 [(1, .sl false (bos V)), (2, i64 s), (3, i64 ((m + 1 : Nat) : Int)), (4, .sl f (ints w)), (5, .fn (.yield l) 0 []), (6, .ref [i64 L, i64 st, .sl false (bos F), .sl false (iis N)] 0), (12, bo false), (33, .sl false (ints (N.getD s []))), (34, i64 L), (35, i64 i), (48, bo true)] []) hs rfl fnok21 rfl ?_ (by rw [ints_len]; simp) hc (bare_mk rfl evX rfl) rfl (fun r g' hr => ⟨r, hr, rfl⟩)
                  have y3 : w.length + 1 = (w ++ [(i : Int)]).length := by simp
                  simp (maxSteps := 4000000) only [↓reduceIte, Nat.reduceLT, Nat.reduceEqDiff, reduceCtorEq, Nat.reduceAdd, Nat.reduceMul, Int.reduceLE, Int.reduceLT, Int.reduceToNat, Nat.reduceLeDiff, Nat.reduceSub, Int.reduceEq, Nat.reduceBEq, evB, ints_take, y3, List.take_length, dfaD]
                · rintro g' s' ⟨r, hr | hr, rfl⟩
                  · obtain ⟨rfl, rfl⟩ := hr
                    simp (maxSteps := 4000000) only [↓reduceIte, Nat.reduceLT, Nat.reduceEqDiff, reduceCtorEq, Nat.reduceAdd, Nat.reduceMul, Int.reduceLE, Int.reduceLT, Int.reduceToNat, Nat.reduceLeDiff, Nat.reduceSub, Int.reduceEq, Nat.reduceBEq, evB, tyA, List.drop_succ_cons, List.drop_zero, thenY_n]
                    (repeat (with_reducible refine And.intro ?_ ?_; exact sdX))
                    refine ywp_cond (t := false) evX (fun q => by cases q) (fun _ => ywp_skip ?_)
                    simp only [blockY_n, joinY_n]
                    refine ⟨by rw [e2], mkS_le rfl ?_ ?_⟩
                    · exact evX
                    · exact evX
                  · obtain ⟨rfl, q, hq, rfl⟩ := hr
                    simp (maxSteps := 4000000) only [↓reduceIte, Nat.reduceLT, Nat.reduceEqDiff, reduceCtorEq, Nat.reduceAdd, Nat.reduceMul, Int.reduceLE, Int.reduceLT, Int.reduceToNat, Nat.reduceLeDiff, Nat.reduceSub, Int.reduceEq, Nat.reduceBEq, evB, tyA, List.drop_succ_cons, List.drop_zero, thenY_n]
                    (repeat (with_reducible refine And.intro ?_ ?_; exact sdX))
                    refine ywp_cond (t := true) evX (fun _ => ?_) (fun q => by cases q)
                    (refine ywp_seq (ywp_reg ttok ?_); simp (maxSteps := 4000000) only [↓reduceIte, Nat.reduceLT, Nat.reduceEqDiff, reduceCtorEq, Nat.reduceAdd, Nat.reduceMul, Int.reduceLE, Int.reduceLT, Int.reduceToNat, Nat.reduceLeDiff, Nat.reduceSub, Int.reduceEq, Nat.reduceBEq, evB, tyA, thenY_n]; (repeat (with_reducible refine And.intro ?_ ?_; exact sdX)))
                    refine ywp_ret ?_
                    simp only [blockY_r, joinY_r, loopY_r, thenY_r]
                    refine ⟨by simp, bo false, by simp (maxSteps := 4000000) only [↓reduceIte, Nat.reduceLT, Nat.reduceEqDiff, reduceCtorEq, Nat.reduceAdd, Nat.reduceMul, Int.reduceLE, Int.reduceLT, Int.reduceToNat, Nat.reduceLeDiff, Nat.reduceSub, Int.reduceEq, Nat.reduceBEq, evB], rfl, .inr ⟨rfl, q, hq, rfl⟩⟩
            · have e1 : decide (v ≥ 0) = false := by simpa using h0
              have hgo : goK N V s i = false := by
                unfold goK; rw [hv, e1]; rfl
              refine ywp_seq (ywp_draw ttok 24 (mkS 68 [(1, .sl false (bos V)), (2, i64 s), (3, i64 ((m + 1 : Nat) : Int)), (4, .sl f (ints w)), (5, .fn (.yield l) 0 []), (6, .ref [i64 L, i64 st, .sl false (bos F), .sl false (iis N)] 0), (12, bo false), (33, .sl false (ints (N.getD s []))), (34, i64 L), (35, i64 i), (48, bo false)] []) ((0, none) :: (1, none) :: (2, none) :: (3, none) :: (4, none) :: (5, none) :: (6, none) :: (7, none) :: (8, none) :: (9, none) :: (10, none) :: (11, none) :: (12, none) :: (13, none) :: (14, none) :: (15, none) :: (16, none) :: (17, none) :: (18, none) :: (19, none) :: (20, none) :: (23, none) :: (21, some [9, 10, 11, 12, 13, 14, 15, 16, 17, 18, 19, 23]) :: (22, some [9, 10, 11, 12, 13, 23]) :: []) [0, 1, 2, 3, 4, 5, 6, 7, 8, 9, 10, 11, 12, 13, 14, 15, 16, 17, 18, 19, 20, 23, 21, 22, 24, 25, 26] [] [] (K2 := fun g' s' => g' = (true, pre ++ fromK F N V m s w i) ∧ s' = (mkS 68 [(1, .sl false (bos V)), (2, i64 s), (3, i64 ((m + 1 : Nat) : Int)), (4, .sl f (ints w)), (5, .fn (.yield l) 0 []), (6, .ref [i64 L, i64 st, .sl false (bos F), .sl false (iis N)] 0), (12, bo false), (33, .sl false (ints (N.getD s []))), (34, i64 L), (35, i64 i), (48, bo false)] []).put (some 64) (.v (.tuple #[]))) rfl (by decide +kernel) (fun O hO => ?_) ?_ ?_)
              · simp only [OpsAre, Nat.reduceAdd, and_true, List.toList_toArray, List.append_eq, List.cons_append, List.nil_append, List.take_succ_cons, List.take_zero] at hO
                simp (maxSteps := 4000000) only [↓reduceIte, Nat.reduceLT, Nat.reduceEqDiff, reduceCtorEq, Nat.reduceAdd, Nat.reduceMul, Int.reduceLE, Int.reduceLT, Int.reduceToNat, Nat.reduceLeDiff, Nat.reduceSub, Int.reduceEq, Nat.reduceBEq, evB, tyA, hO, e1, bos_len]; (repeat (with_reducible refine And.intro ?_ ?_; exact sdX))
                refine mkS_le rfl ?_ ?_
                · exact evX
                · exact evX
              · exact .inl ⟨rfl, rfl, rfl, rfl⟩
              · rintro g' s' ⟨rfl, rfl⟩
                simp (maxSteps := 4000000) only [↓reduceIte, Nat.reduceLT, Nat.reduceEqDiff, reduceCtorEq, Nat.reduceAdd, Nat.reduceMul, Int.reduceLE, Int.reduceLT, Int.reduceToNat, Nat.reduceLeDiff, Nat.reduceSub, Int.reduceEq, Nat.reduceBEq, evB, tyA, List.drop_succ_cons, List.drop_zero, thenY_n]
                (repeat (with_reducible refine And.intro ?_ ?_; exact sdX))
                refine ywp_cond (t := false) evX (fun q => by cases q) (fun _ => ywp_skip ?_)
                simp only [blockY_n, joinY_n]
                refine ⟨by rw [hno hgo], mkS_le rfl ?_ ?_⟩
                · exact evX
                · exact evX
          · refine ywp_reg ttok ?_
            simp (maxSteps := 4000000) only [↓reduceIte, Nat.reduceLT, Nat.reduceEqDiff, reduceCtorEq, Nat.reduceAdd, Nat.reduceMul, Int.reduceLE, Int.reduceLT, Int.reduceToNat, Nat.reduceLeDiff, Nat.reduceSub, Int.reduceEq, Nat.reduceBEq, evB, tyA, hwi, loopY_n]
            (repeat (with_reducible refine And.intro ?_ ?_; exact sdX))
            refine ⟨i + 1, by omega, by omega, rfl, mkS_le rfl ?_ ?_⟩
            · exact evX
            · exact evX
        · have d1 : decide ((i : Int) < (L : Int)) = false := by simpa using hlt
          have hiL : i = L := by omega
          subst hiL
          (refine ywp_seq (ywp_reg ttok ?_); simp (maxSteps := 4000000) only [↓reduceIte, Nat.reduceLT, Nat.reduceEqDiff, reduceCtorEq, Nat.reduceAdd, Nat.reduceMul, Int.reduceLE, Int.reduceLT, Int.reduceToNat, Nat.reduceLeDiff, Nat.reduceSub, Int.reduceEq, Nat.reduceBEq, evB, tyA, thenY_n, d1]; (repeat (with_reducible refine And.intro ?_ ?_; exact sdX)))
          refine ywp_seq (ywp_cond (t := false) evX (fun q => by cases q) (fun _ => ywp_exit ?_))
          rw [thenY_e, loopY_e, blockY_e, if_pos rfl, thenY_n]
          (refine ywp_seq (ywp_reg ttok ?_); simp (maxSteps := 4000000) only [↓reduceIte, Nat.reduceLT, Nat.reduceEqDiff, reduceCtorEq, Nat.reduceAdd, Nat.reduceMul, Int.reduceLE, Int.reduceLT, Int.reduceToNat, Nat.reduceLeDiff, Nat.reduceSub, Int.reduceEq, Nat.reduceBEq, evB, tyA, thenY_n]; (repeat (with_reducible refine And.intro ?_ ?_; exact sdX)))
          refine ywp_ret ?_
          exact ⟨.inr rfl, bo true, by simp (maxSteps := 4000000) only [↓reduceIte, Nat.reduceLT, Nat.reduceEqDiff, reduceCtorEq, Nat.reduceAdd, Nat.reduceMul, Int.reduceLE, Int.reduceLT, Int.reduceToNat, Nat.reduceLeDiff, Nat.reduceSub, Int.reduceEq, Nat.reduceBEq, evB], rfl, .inl ⟨rfl, by rw [hfL]⟩⟩
  intro n
  induction n with
  | zero => exact main 0 (fun m hm => by omega)
  | succ n ih => exact main (n + 1) (fun m hm => by cases hm; exact ih)
end
def mostN (m : Int) : Nat := (min (max m 0) 200).toNat
theorem mostN_le (m : Int) : mostN m ≤ 200 := by unfold mostN; omega
theorem mostN_eq (m : Int) : (if (200 : Int) < (if (0 : Int) > m then 0 else m) then (200 : Int) else (if (0 : Int) > m then 0 else m)) = (mostN m : Int) := by
  unfold mostN; split <;> split at * <;> omega
set_option maxHeartbeats 16000000 in
theorem c_All1 {L k : Nat} {N : List (List Int)} (h : NOk L k N) (hL : L ≤ 1000) (hk : 1 ≤ k ∧ k ≤ 2000) (st : Nat) (hst : st < k) (F : List Bool) (hF : F.length = k) (most : Int) :
    IterC Try.prog 19 [.ref [i64 L, i64 st, .sl false (bos F), .sl false (iis N)] 0, .ref [i64 most] 0] (fun x => .sl false (ints x)) (fromL F N (liveL F N) (mostN most) st []) := by
  intro l J hs hY
  refine gcalls_of_ywp (rs := []) hs Try.func19 rfl Try.ntmps19 (by simp) rfl fun Ib => ?_
  have hn := mostN_le most
  have hm := mostN_eq most
  generalize mostN most = n at *
  have hc := c_from J hs l _ hY h hL hk st F (liveL F N) hF (by rw [liveL_len, hF]) n st true [] [] hst (by simp; omega) (by rw [List.nil_append]; exact List.prefix_refl _)
  rw [List.nil_append] at hc
  refine ywp_seq (ywp_reg ttok ?_)
  simp (maxSteps := 4000000) only [↓reduceIte, Nat.reduceLT, Nat.reduceEqDiff, reduceCtorEq, Nat.reduceAdd, Nat.reduceMul, Int.reduceLE, Int.reduceLT, Int.reduceToNat, Nat.reduceLeDiff, Nat.reduceSub, Int.reduceEq, Nat.reduceBEq, evB, tyA, thenY_n]
  (repeat (with_reducible refine And.intro ?_ ?_; exact sdX))
  refine callVC_scal fnok20 (c_May h st hst F hF (by omega) hk) rfl ?_
  simp (maxSteps := 4000000) only [↓reduceIte, Nat.reduceLT, Nat.reduceEqDiff, reduceCtorEq, Nat.reduceAdd, Nat.reduceMul, Int.reduceLE, Int.reduceLT, Int.reduceToNat, Nat.reduceLeDiff, Nat.reduceSub, Int.reduceEq, Nat.reduceBEq, evB, tyA, thenY_n]
  (repeat (with_reducible refine And.intro ?_ ?_; exact sdX))
  refine ywp_cond (t := true) evX (fun _ => ?_) (fun q => by cases q)
  refine ywp_draw ttok 9 (mkS 16 [(6, .agg [i64 L, i64 st, .sl false (bos F), .sl false (iis N)]), (8, .sl false (bos (liveL F N))), (10, i64 st), (13, i64 n), (14, .fn (.yield l) 0 [])] []) ((0, none) :: (1, none) :: (3, none) :: (4, none) :: (5, none) :: (6, none) :: (7, none) :: (8, none) :: (2, some [0, 3, 4, 5, 6, 7, 8]) :: []) [0, 1, 3, 4, 5, 6, 7, 8, 2, 9] [] []
    (K2 := fun g' s' => (g' = (true, fromL F N (liveL F N) n st []) ∨ ∃ q, q <+: fromL F N (liveL F N) n st [] ∧ g' = (false, q)) ∧ ∃ r, s' = (mkS 16 [] []).put (some 15) r) rfl (by decide +kernel) (fun O hO => ?_) ?_ ?_
  · simp only [OpsAre, Nat.reduceAdd, and_true, List.toList_toArray, List.append_eq, List.cons_append, List.nil_append, List.take_succ_cons, List.take_zero] at hO
    simp (maxSteps := 4000000) only [↓reduceIte, Nat.reduceLT, Nat.reduceEqDiff, reduceCtorEq, Nat.reduceAdd, Nat.reduceMul, Int.reduceLE, Int.reduceLT, Int.reduceToNat, Nat.reduceLeDiff, Nat.reduceSub, Int.reduceEq, Nat.reduceBEq, evB, tyA, hO, hm]; (repeat (with_reducible refine And.intro ?_ ?_; exact sdX))
    refine callVC_mk fnok22 (c_MLive h st hst F hF (by omega) hk) rfl ?_
    simp (maxSteps := 4000000) only [↓reduceIte, Nat.reduceLT, Nat.reduceEqDiff, reduceCtorEq, Nat.reduceAdd, Nat.reduceMul, Int.reduceLE, Int.reduceLT, Int.reduceToNat, Nat.reduceLeDiff, Nat.reduceSub, Int.reduceEq, Nat.reduceBEq, evB, tyA, hO, hm]; (repeat (with_reducible refine And.intro ?_ ?_; exact sdX))
    refine mkS_le rfl ?_ ?_
    · exact evX
    · exact evX
  · refine specO_call (ids := []) (p := True) (args := [.agg [i64 L, i64 st, .sl false (bos F), .sl false (iis N)], .sl false (bos (liveL F N)), i64 st, i64 n, .sl true [], .fn (.yield l) 0 []]) (T := mkS 16 [] []) hs rfl fnok21 rfl (by simp (maxSteps := 4000000) only [↓reduceIte, Nat.reduceLT, Nat.reduceEqDiff, reduceCtorEq, Nat.reduceAdd, Nat.reduceMul, Int.reduceLE, Int.reduceLT, Int.reduceToNat, Nat.reduceLeDiff, Nat.reduceSub, Int.reduceEq, Nat.reduceBEq, evB]; rfl) trivial hc (bare_mk rfl trivial rfl) rfl (fun r g' hr => ⟨by
      rcases hr with ⟨_, q⟩ | ⟨_, q⟩
      · exact .inl q
      · exact .inr q, r, rfl⟩)
  · rintro g' s' ⟨hg, r, rfl⟩
    simp (maxSteps := 4000000) only [↓reduceIte, Nat.reduceLT, Nat.reduceEqDiff, reduceCtorEq, Nat.reduceAdd, Nat.reduceMul, Int.reduceLE, Int.reduceLT, Int.reduceToNat, Nat.reduceLeDiff, Nat.reduceSub, Int.reduceEq, Nat.reduceBEq, evB, tyA, List.drop_succ_cons, List.drop_zero]
    (repeat (with_reducible refine And.intro ?_ ?_; exact sdX))
    exact ⟨_, rfl, rfl, hg⟩
theorem c_All (L st : Int) (x y : Bool) (A B : List (List D)) (most : Int) : Contract Try.prog 11 [.agg [i64 L, i64 st, .sl x A, .sl y B], i64 most] (.fn (.func 19) 0 [.ref [i64 L, i64 st, .sl x A, .sl y B] 0, .ref [i64 most] 0]) [] := by
  refine contract_of_awp (rs := [4]) Try.func11 rfl Try.ntmps11 (by simp) rfl fun E => ?_
  (repeat (first | refine awp_seq ?_ | refine awp_block ?_ | ((first | refine awp_skip ?_ | refine awp_exit ?_ | refine awp_reg ttok ?_ | (refine awp_draw ttok ?dr_calm ?_; (case dr_calm => decide +kernel)) | refine awp_condM ?_); simp (maxSteps := 4000000) only [↓reduceIte, Nat.reduceLT, Nat.reduceEqDiff, reduceCtorEq, Nat.reduceAdd, Nat.reduceMul, Int.reduceLE, Int.reduceLT, Int.reduceToNat, Nat.reduceLeDiff, Nat.reduceSub, Int.reduceEq, Nat.reduceBEq, evB, tyA]; (repeat (with_reducible refine And.intro ?_ ?_; exact sdX)); (with_reducible first | refine awp_id ?_ | refine id_call ?_ | refine id_and ?_ | refine id_ex ?_ | refine id_all ?_ | refine id_nat ?_ | refine id_le ?_))))
  refine awp_pure 4 (d := .fn (.func 19) 0 [.ptr 1000 0 0, .ptr 1001 0 0]) evX (by simp (maxSteps := 4000000) only [↓reduceIte, Nat.reduceLT, Nat.reduceEqDiff, reduceCtorEq, Nat.reduceAdd, Nat.reduceMul, Int.reduceLE, Int.reduceLT, Int.reduceToNat, Nat.reduceLeDiff, Nat.reduceSub, Int.reduceEq, Nat.reduceBEq, evB]; rfl) evX ?_
  exact awp_ret (ends_plain (.inr rfl) rfl evX)
def lexB : List Int → List Int → Bool
  | _, [] => false
  | [], _ :: _ => true
  | a :: l, b :: m => if a = b then lexB l m else decide (a < b)
theorem lexB_irr : ∀ l, lexB l l = false
  | [] => rfl
  | a :: l => by simp [lexB, lexB_irr l]
theorem lexB_trans : ∀ {a b c : List Int}, lexB a b = true → lexB b c = true → lexB a c = true
  | _, [], _, h, _ => by cases ‹List Int› <;> simp [lexB] at h
  | [], _ :: _, [], _, h => by simp [lexB] at h
  | [], _ :: _, _ :: _, _, _ => rfl
  | x :: a, y :: b, [], _, h => by simp [lexB] at h
  | x :: a, y :: b, z :: c, h, k => by
    simp only [lexB] at h k ⊢
    by_cases e : x = y
    · subst e
      rw [if_pos rfl] at h
      by_cases e2 : x = z
      · subst e2
        rw [if_pos rfl] at k ⊢
        exact lexB_trans h k
      · rw [if_neg e2] at k ⊢
        exact k
    · rw [if_neg e] at h
      simp only [decide_eq_true_eq] at h
      by_cases e2 : y = z
      · subst e2
        rw [if_neg e]
        simpa using h
      · rw [if_neg e2] at k
        simp only [decide_eq_true_eq] at k
        rw [if_neg (by omega)]
        simp; omega
theorem lexB_asymm {a b : List Int} (h : lexB a b = true) (k : lexB b a = true) : False := by
  have := lexB_trans h k
  rw [lexB_irr] at this; cases this
theorem lexB_app : ∀ (w : List Int) {a b : List Int}, lexB (w ++ a) (w ++ b) = lexB a b
  | [], _, _ => rfl
  | x :: w, a, b => by simp [lexB, lexB_app w]
abbrev srt (l : List (List Int)) : Prop := l.Pairwise fun a b => lexB a b = true
theorem toD_getD {L k : Nat} {N : List (List Int)} (h : NOk L k N) {s c : Nat} (hs : s < k) (hc : c < (N.getD s []).length) : toD N s c = (N.getD s []).getD c 0 := by
  have := h.len
  unfold toD
  rw [if_neg (by rw [Int.toNat_natCast]; omega), Int.toNat_natCast, Int.toNat_natCast]
theorem endsD_cons {F : List Bool} {N : List (List Int)} {s : Int} (hs : 0 ≤ s) (c : Int) (u : List Int) : endsD F N s (c :: u) = endsD F N (toD N s c) u := by
  unfold endsD; rw [runD, if_neg (by omega)]
theorem endsD_nil {F : List Bool} {N : List (List Int)} (s : Nat) : endsD F N s [] = F.getD s false := by
  simp [endsD, runD]
theorem endsD_neg {F : List Bool} {N : List (List Int)} {s : Int} (hs : s < 0) (u : List Int) : endsD F N s u = false := by
  unfold endsD; rw [runD_neg hs]; simp; omega
def cde (L : Nat) : List Nat → Nat := List.foldl (fun c x => c * L + x + 1) 0
theorem cde_nil (L : Nat) : cde L [] = 0 := rfl
theorem cde_snoc (L : Nat) (w : List Nat) (x : Nat) : cde L (w ++ [x]) = cde L w * L + x + 1 := by simp [cde, List.foldl_append]
section
abbrev S2 := Int × Int
abbrev QE (α : Type) := α × Int × Int
def bStep (ch : S2 → Nat → Option S2) (z : S2) (i c : Nat) (q : List (QE S2)) : List (QE S2) := match ch (q.getD i (z, -1, -1)).1 c with
  | some t => if (q.any fun e => e.1 == t) = true then q else q ++ [(t, (i : Int), (c : Int))]
  | none => q
def bRow (ch : S2 → Nat → Option S2) (z : S2) (i : Nat) (q : List (QE S2)) : Nat → List (QE S2)
  | 0 => q
  | c + 1 => bStep ch z i c (bRow ch z i q c)
def bRun (ch : S2 → Nat → Option S2) : S2 → List Nat → Option S2
  | s, [] => some s
  | s, x :: w => (ch s x).bind fun t => bRun ch t w
theorem bRun_snoc (ch : S2 → Nat → Option S2) : ∀ (w : List Nat) (s : S2) (x : Nat), bRun ch s (w ++ [x]) = (bRun ch s w).bind fun t => ch t x
  | [], s, x => by simp [bRun]
  | y :: w, s, x => by
    simp only [List.cons_append, bRun]
    cases ch s y with
    | none => rfl
    | some t => simp only [Option.bind_some]; exact bRun_snoc ch w t x
def wordQ (z : S2) (q : List (QE S2)) : Nat → Nat → List Nat
  | 0, _ => []
  | n + 1, j => if (q.getD j (z, -1, -1)).2.1 < 0 then [] else wordQ z q n (q.getD j (z, -1, -1)).2.1.toNat ++ [(q.getD j (z, -1, -1)).2.2.toNat]
structure BInv (ch : S2 → Nat → Option S2) (z : S2) (L : Nat) (q : List (QE S2)) (i c : Nat) : Prop where
  pos : 1 ≤ q.length
  head : q.getD 0 (z, -1, -1) = (z, -1, -1)
  up : ∀ j, 1 ≤ j → j < q.length → ∃ u b : Nat, (q.getD j (z, -1, -1)).2 = ((u : Int), (b : Int)) ∧ u < j ∧ b < L ∧ ch (q.getD u (z, -1, -1)).1 b = some (q.getD j (z, -1, -1)).1 ∧ (u < i ∨ (u = i ∧ b < c))
  inc : ∀ j k, 1 ≤ j → j < k → k < q.length → (q.getD j (z, -1, -1)).2.1 < (q.getD k (z, -1, -1)).2.1 ∨ ((q.getD j (z, -1, -1)).2.1 = (q.getD k (z, -1, -1)).2.1 ∧ (q.getD j (z, -1, -1)).2.2 < (q.getD k (z, -1, -1)).2.2)
  dis : ∀ j k, j < k → k < q.length → (q.getD j (z, -1, -1)).1 ≠ (q.getD k (z, -1, -1)).1
  all : ∀ i' c', (i' < i ∧ c' < L ∨ i' = i ∧ c' < c) → i' < q.length → ∀ t, ch (q.getD i' (z, -1, -1)).1 c' = some t →
    ∃ j, j < q.length ∧ (q.getD j (z, -1, -1)).1 = t ∧ (j = 0 ∨ (q.getD j (z, -1, -1)).2.1 < (i' : Int) ∨ ((q.getD j (z, -1, -1)).2.1 = (i' : Int) ∧ (q.getD j (z, -1, -1)).2.2 ≤ (c' : Int)))
theorem getD_app_lt {α : Type} {l m : List α} {j : Nat} (h : j < l.length) (d : α) : (l ++ m).getD j d = l.getD j d := by
  simp [List.getD, List.getElem?_append_left h]
theorem getD_app_at {α : Type} {l : List α} {x : α} (d : α) : (l ++ [x]).getD l.length d = x := by
  simp [List.getD]
theorem BInv.step {ch : S2 → Nat → Option S2} {z : S2} {L : Nat} {q : List (QE S2)} {i c : Nat} (h : BInv ch z L q i c) (hi : i < q.length) (hc : c < L) : BInv ch z L (bStep ch z i c q) i (c + 1) := by
  have keep : ∀ t, ch (q.getD i (z, -1, -1)).1 c = some t → (q.any fun e => e.1 == t) = true → BInv ch z L q i (c + 1) := fun t ht ha => by
    refine ⟨h.pos, h.head, fun j h1 h2 => ?_, h.inc, h.dis, fun i' c' hq hl t' ht' => ?_⟩
    · obtain ⟨u, b, g1, g2, g3, g4, g5⟩ := h.up j h1 h2
      exact ⟨u, b, g1, g2, g3, g4, by omega⟩
    · by_cases hnew : i' = i ∧ c' = c
      · obtain ⟨rfl, rfl⟩ := hnew
        rw [ht] at ht'; cases ht'
        rw [List.any_eq_true] at ha
        obtain ⟨e, he, hee⟩ := ha
        obtain ⟨j, hj, rfl⟩ := List.getElem_of_mem he
        have eg : q.getD j (z, -1, -1) = q[j] := by simp [List.getD, List.getElem?_eq_getElem hj]
        refine ⟨j, hj, by rw [eg]; exact eq_of_beq hee, ?_⟩
        rcases Nat.eq_zero_or_pos j with rfl | hp
        · exact .inl rfl
        · obtain ⟨u, b, g1, g2, g3, g4, g5⟩ := h.up j hp hj
          rw [g1]; simp only; omega
      · exact h.all i' c' (by omega) hl t' ht'
  unfold bStep
  split
  · rename_i t ht
    split
    · rename_i ha; exact keep t ht ha
    · rename_i ha
      have hlen : (q ++ [(t, (i : Int), (c : Int))]).length = q.length + 1 := by simp
      have old : ∀ j, j < q.length → (q ++ [(t, (i : Int), (c : Int))]).getD j (z, -1, -1) = q.getD j (z, -1, -1) := fun j hj => getD_app_lt hj _
      have new : (q ++ [(t, (i : Int), (c : Int))]).getD q.length (z, -1, -1) = (t, (i : Int), (c : Int)) := getD_app_at _
      have hnot : ∀ j, j < q.length → (q.getD j (z, -1, -1)).1 ≠ t := fun j hj e => by
        apply ha
        rw [List.any_eq_true]
        refine ⟨q[j], List.getElem_mem _, ?_⟩
        have eg : q.getD j (z, -1, -1) = q[j] := by simp [List.getD, List.getElem?_eq_getElem hj]
        rw [← eg, e]; exact beq_self_eq_true _
      refine ⟨by omega, by rw [old 0 h.pos]; exact h.head, fun j h1 h2 => ?_, fun j k h1 h2 h3 => ?_, fun j k h1 h2 => ?_, fun i' c' hq hl t' ht' => ?_⟩
      · rcases Nat.lt_or_ge j q.length with g | g
        · obtain ⟨u, b, g1, g2, g3, g4, g5⟩ := h.up j h1 g
          exact ⟨u, b, by rw [old j g]; exact g1, g2, g3, by rw [old u (by omega), old j g]; exact g4, by omega⟩
        · obtain rfl : j = q.length := by omega
          exact ⟨i, c, by rw [new], by omega, hc, by rw [old i hi, new]; exact ht, by omega⟩
      · rcases Nat.lt_or_ge k q.length with g | g
        · rw [old j (by omega), old k g]; exact h.inc j k h1 h2 g
        · obtain rfl : k = q.length := by omega
          obtain ⟨u, b, g1, g2, g3, g4, g5⟩ := h.up j h1 (by omega)
          rw [old j (by omega), new, g1]
          simp only; omega
      · rcases Nat.lt_or_ge k q.length with g | g
        · rw [old j (by omega), old k g]; exact h.dis j k h1 g
        · obtain rfl : k = q.length := by omega
          rw [old j (by omega), new]; exact hnot j (by omega)
      · by_cases hnew : i' = i ∧ c' = c
        · obtain ⟨rfl, rfl⟩ := hnew
          rw [old _ hi, ht] at ht'; cases ht'
          refine ⟨q.length, by omega, by rw [new], ?_⟩
          rw [new]; simp
        · have hil : i' < q.length := by omega
          rw [old i' hil] at ht'
          obtain ⟨j, g1, g2, g3⟩ := h.all i' c' (by omega) hil t' ht'
          refine ⟨j, by omega, by rw [old j g1]; exact g2, ?_⟩
          rw [old j g1]; exact g3
  · rename_i hn
    refine ⟨h.pos, h.head, fun j h1 h2 => ?_, h.inc, h.dis, fun i' c' hq hl t' ht' => ?_⟩
    · obtain ⟨u, b, g1, g2, g3, g4, g5⟩ := h.up j h1 h2
      exact ⟨u, b, g1, g2, g3, g4, by omega⟩
    · by_cases hnew : i' = i ∧ c' = c
      · obtain ⟨rfl, rfl⟩ := hnew
        rw [hn] at ht'; cases ht'
      · exact h.all i' c' (by omega) hl t' ht'
theorem bStep_len (ch : S2 → Nat → Option S2) (z : S2) (i c : Nat) (q : List (QE S2)) : q.length ≤ (bStep ch z i c q).length := by
  unfold bStep
  split
  · split
    · exact Nat.le_refl _
    · simp
  · exact Nat.le_refl _
theorem BInv.row {ch : S2 → Nat → Option S2} {z : S2} {L : Nat} {q : List (QE S2)} {i : Nat} (h : BInv ch z L q i 0) (hi : i < q.length) : ∀ c, c ≤ L → BInv ch z L (bRow ch z i q c) i c ∧ i < (bRow ch z i q c).length
  | 0, _ => ⟨h, hi⟩
  | c + 1, hc => by
    obtain ⟨g1, g2⟩ := BInv.row h hi c (by omega)
    exact ⟨g1.step g2 (by omega), Nat.lt_of_lt_of_le g2 (bStep_len _ _ _ _ _)⟩
theorem BInv.next {ch : S2 → Nat → Option S2} {z : S2} {L : Nat} {q : List (QE S2)} {i : Nat} (h : BInv ch z L q i L) : BInv ch z L q (i + 1) 0 where
  pos := h.pos
  head := h.head
  up := fun j h1 h2 => by
    obtain ⟨u, b, g1, g2, g3, g4, g5⟩ := h.up j h1 h2
    exact ⟨u, b, g1, g2, g3, g4, by omega⟩
  inc := h.inc
  dis := h.dis
  all := fun i' c' hq => h.all i' c' (by omega)
theorem BInv.code {ch : S2 → Nat → Option S2} {z : S2} {L : Nat} {q : List (QE S2)} {i c : Nat} (h : BInv ch z L q i c) {n : Nat} (hn : q.length ≤ n) : ∀ j, j < q.length → ∀ m, j < m → m ≤ n →
    (∀ x ∈ wordQ z q m j, x < L) ∧ bRun ch z (wordQ z q m j) = some (q.getD j (z, -1, -1)).1 ∧ wordQ z q m j = wordQ z q n j ∧ (∀ j', j' < j → cde L (wordQ z q n j') < cde L (wordQ z q n j)) ∧
      (1 ≤ j → cde L (wordQ z q n j) = cde L (wordQ z q n (q.getD j (z, -1, -1)).2.1.toNat) * L + (q.getD j (z, -1, -1)).2.2.toNat + 1) := by
  intro j
  induction j using Nat.strongRecOn with
  | ind j ih =>
    intro hj m hm hmn
    obtain ⟨m', rfl⟩ : ∃ m', m = m' + 1 := ⟨m - 1, by omega⟩
    obtain ⟨n', rfl⟩ : ∃ n', n = n' + 1 := ⟨n - 1, by omega⟩
    rcases Nat.eq_zero_or_pos j with rfl | hp
    · have e : ∀ k, wordQ z q (k + 1) 0 = [] := fun k => by rw [wordQ, h.head]; simp
      refine ⟨by rw [e]; simp, by rw [e, h.head]; rfl, by rw [e, e], fun j' h' => by omega, fun h' => by omega⟩
    · obtain ⟨u, b, g1, g2, g3, g4, g5⟩ := h.up j hp hj
      have e : ∀ k, wordQ z q (k + 1) j = wordQ z q k u ++ [b] := fun k => by rw [wordQ, g1]; simp only; rw [if_neg (by omega)]; simp
      obtain ⟨i1, i2, i3, i4, _⟩ := ih u g2 (by omega) m' (by omega) (by omega)
      obtain ⟨k1, k2, k3, _⟩ := ih u g2 (by omega) n' (by omega) (by omega)
      refine ⟨?_, ?_, ?_, ?_, ?_⟩
      · rw [e]
        intro x hx
        rcases List.mem_append.1 hx with q1 | q1
        · exact i1 x q1
        · rw [List.mem_singleton.1 q1]; exact g3
      · rw [e, bRun_snoc, i2]; exact g4
      · rw [e, e, i3, k3]
      · intro j' hj'
        rw [e n', k3, cde_snoc]
        rcases Nat.eq_zero_or_pos j' with rfl | hp'
        · have e0 : wordQ z q (n' + 1) 0 = [] := by rw [wordQ, h.head]; simp
          rw [e0, cde_nil]; omega
        · obtain ⟨u', b', f1, f2, f3, f4, f5⟩ := h.up j' hp' (by omega)
          have e' : wordQ z q (n' + 1) j' = wordQ z q n' u' ++ [b'] := by rw [wordQ, f1]; simp only; rw [if_neg (by omega)]; simp
          obtain ⟨_, _, l3, l4, _⟩ := ih u' (by omega) (by omega) n' (by omega) (by omega)
          rw [e', cde_snoc, l3]
          have hinc := h.inc j' j hp' hj' hj
          rw [f1, g1] at hinc
          simp only at hinc
          rcases hinc with q1 | ⟨q1, q2⟩
          · have hcd := (ih u g2 (by omega) (n' + 1) (by omega) (Nat.le_refl _)).2.2.2.1 u' (by omega)
            have : (cde L (wordQ z q (n' + 1) u') + 1) * L ≤ cde L (wordQ z q (n' + 1) u) * L := Nat.mul_le_mul hcd (Nat.le_refl _)
            rw [Nat.add_mul, Nat.one_mul] at this
            omega
          · obtain rfl : u' = u := by omega
            omega
      · intro _
        rw [e n', k3, cde_snoc, g1]
        simp
theorem BInv.mono {ch : S2 → Nat → Option S2} {z : S2} {L : Nat} {q : List (QE S2)} {i c : Nat} (h : BInv ch z L q i c) {a b : Nat} (hab : a < b) (hb : b < q.length) : cde L (wordQ z q q.length a) < cde L (wordQ z q q.length b) :=
  (h.code (Nat.le_refl _) b hb q.length hb (Nat.le_refl _)).2.2.2.1 a hab
end
theorem nodup_len : ∀ (n : Nat) (l : List Nat), l.Nodup → (∀ x ∈ l, x < n) → l.length ≤ n
  | 0, l, _, h => by
    cases l with
    | nil => simp
    | cons x l => have := h x (by simp); omega
  | n + 1, l, hd, h => by
    have hd' : (l.erase n).Nodup := hd.erase n
    have := nodup_len n (l.erase n) hd' fun x hx => by
      have h1 := h x (List.mem_of_mem_erase hx)
      have h2 : x ≠ n := fun e => by subst e; exact (List.Nodup.not_mem_erase hd) hx
      omega
    have hl := List.length_erase (a := n) (l := l)
    split at hl <;> omega
section
theorem BInv.len {ch : S2 → Nat → Option S2} {z : S2} {L : Nat} {q : List (QE S2)} {i c : Nat} (h : BInv ch z L q i c) (enc : S2 → Nat) (B : Nat) (hz : enc z < B) (hb : ∀ s x t, ch s x = some t → enc t < B) (hinj : ∀ s t, (s = z ∨ ∃ r x, ch r x = some s) → (t = z ∨ ∃ r x, ch r x = some t) → enc s = enc t → s = t) : q.length ≤ B := by
  have hst : ∀ j, j < q.length → ((q.getD j (z, -1, -1)).1 = z ∨ ∃ r x, ch r x = some (q.getD j (z, -1, -1)).1) := fun j hj => by
    rcases Nat.eq_zero_or_pos j with rfl | hp
    · left; rw [h.head]
    · obtain ⟨u, b, _, _, _, g4, _⟩ := h.up j hp hj
      exact .inr ⟨_, _, g4⟩
  have hg : ∀ j (hj : j < q.length), q.getD j (z, -1, -1) = q[j] := fun j hj => by simp [List.getD, List.getElem?_eq_getElem hj]
  have := nodup_len B (q.map fun e => enc e.1) (by
    rw [List.nodup_iff_pairwise_ne, List.pairwise_iff_getElem]
    intro a b ha hb' hab e
    simp only [List.getElem_map, List.length_map] at ha hb' e
    have h1 := hst a ha
    have h2 := hst b hb'
    have h3 := h.dis a b hab hb'
    rw [hg a ha] at h1 h3
    rw [hg b hb'] at h2 h3
    exact h3 (hinj _ _ h1 h2 e)) (fun x hx => by
    obtain ⟨e, he, rfl⟩ := List.mem_map.1 hx
    obtain ⟨j, hj, rfl⟩ := List.getElem_of_mem he
    rcases hst j hj with q1 | ⟨r, x, q1⟩
    · rw [hg j hj] at q1; rw [q1]; exact hz
    · rw [hg j hj] at q1; exact hb _ _ _ q1)
  simpa using this
end
def dst (F : List Bool) (N : List (List Int)) : Nat → Nat → Int
  | 0, s => if F.getD s false = true then 0 else -1
  | n + 1, s => if (decide (dst F N n s < 0) && (N.getD s []).any fun t => decide (t ≥ 0) && (dst F N n t.toNat == (n : Int))) = true then ((n + 1 : Nat) : Int) else dst F N n s
def Acc (F : List Bool) (N : List (List Int)) (n s : Nat) : Prop := ∃ u : List Int, u.length = n ∧ endsD F N s u = true
section
variable {L k : Nat} {N : List (List Int)} (h : NOk L k N) {F : List Bool}
theorem acc_zero {s : Nat} : Acc F N 0 s ↔ F.getD s false = true := by
  constructor
  · rintro ⟨u, hu, he⟩
    obtain rfl := List.length_eq_zero_iff.1 hu
    rwa [endsD_nil] at he
  · intro q; exact ⟨[], rfl, by rw [endsD_nil]; exact q⟩
include h
theorem acc_succ {n s : Nat} (hs : s < k) : Acc F N (n + 1) s ↔ ∃ t ∈ N.getD s [], 0 ≤ t ∧ Acc F N n t.toNat := by
  have hl := h.len
  constructor
  · rintro ⟨u, hu, he⟩
    cases u with
    | nil => simp at hu
    | cons c u =>
      rw [endsD_cons (Int.natCast_nonneg _)] at he
      have ht : 0 ≤ toD N s c := by
        rcases Int.lt_or_le (toD N s c) 0 with q | q
        · rw [endsD_neg q] at he; cases he
        · exact q
      have hm := (toD_mem ht).2.2
      rw [Int.toNat_natCast] at hm
      refine ⟨_, hm, ht, u, by simpa using hu, ?_⟩
      rw [show (((toD N s c).toNat : Nat) : Int) = toD N s c by omega]; exact he
  · rintro ⟨t, hm, h0, u, hu, he⟩
    obtain ⟨c, hc, e⟩ := toD_of (show s < N.length by omega) hm
    refine ⟨(c : Int) :: u, by simp [hu], ?_⟩
    rw [endsD_cons (Int.natCast_nonneg _), e]
    rw [show ((t.toNat : Nat) : Int) = t by omega] at he
    exact he
theorem dst_spec : ∀ n s, s < k → (dst F N n s = -1 ∧ ∀ m, m ≤ n → ¬ Acc F N m s) ∨ (∃ m : Nat, m ≤ n ∧ dst F N n s = m ∧ Acc F N m s ∧ ∀ j, j < m → ¬ Acc F N j s)
  | 0, s, hs => by
    rw [dst]
    by_cases hf : F.getD s false = true
    · rw [if_pos hf]; exact .inr ⟨0, by omega, rfl, acc_zero.2 hf, fun j hj => by omega⟩
    · rw [if_neg hf]
      refine .inl ⟨rfl, fun m hm => ?_⟩
      obtain rfl : m = 0 := by omega
      intro q; exact hf (acc_zero.1 q)
  | n + 1, s, hs => by
    rw [dst]
    have g := h.get hs
    rcases dst_spec n s hs with ⟨e, hno⟩ | ⟨m, hm, e, ha, hno⟩
    · by_cases hany : ((N.getD s []).any fun t => decide (t ≥ 0) && (dst F N n t.toNat == (n : Int))) = true
      · rw [if_pos (by rw [hany, e]; rfl)]
        obtain ⟨t, ht, hp⟩ := List.any_eq_true.1 hany
        simp only [Bool.and_eq_true, decide_eq_true_eq, beq_iff_eq] at hp
        have htk := (g.2 t ht).2
        right
        refine ⟨n + 1, Nat.le_refl _, rfl, (acc_succ h hs).2 ⟨t, ht, hp.1, ?_⟩, fun j hj => hno j (by omega)⟩
        rcases dst_spec n t.toNat (by omega) with ⟨e2, _⟩ | ⟨m, _, e2, ha, _⟩
        · omega
        · rw [show n = m by omega]; exact ha
      · rw [if_neg (by intro q; rw [Bool.and_eq_true] at q; exact hany q.2)]
        left
        refine ⟨e, fun m hm => ?_⟩
        rcases Nat.lt_or_ge m (n + 1) with z | z
        · exact hno m (by omega)
        · obtain rfl : m = n + 1 := by omega
          intro q
          obtain ⟨t, ht, h0, ha⟩ := (acc_succ h hs).1 q
          have htk := (g.2 t ht).2
          rcases dst_spec n t.toNat (by omega) with ⟨_, hn2⟩ | ⟨m, hmn, e2, ha2, hn2⟩
          · exact hn2 n (Nat.le_refl _) ha
          · rcases Nat.lt_or_ge m n with y | y
            · exact hno (m + 1) (by omega) ((acc_succ h hs).2 ⟨t, ht, h0, ha2⟩)
            · obtain rfl : m = n := by omega
              apply hany
              refine List.any_eq_true.2 ⟨t, ht, ?_⟩
              simp only [Bool.and_eq_true, decide_eq_true_eq, beq_iff_eq]
              exact ⟨h0, e2⟩
    · rw [if_neg (by rw [Bool.and_eq_true, decide_eq_true_eq]; omega)]
      exact .inr ⟨m, by omega, e, ha, hno⟩
theorem least_list : ∀ (m s : Nat), s < k → Acc F N m s → (∀ j, j < m → ¬ Acc F N j s) → ∃ l : List Nat, l.length = m + 1 ∧ l.Nodup ∧ ∀ x ∈ l, x < k ∧ ∃ j, j ≤ m ∧ Acc F N j x
  | 0, s, hs, ha, hno => ⟨[s], rfl, by simp, fun x hx => by
      rw [List.mem_singleton.1 hx]; exact ⟨hs, 0, Nat.le_refl _, ha⟩⟩
  | m + 1, s, hs, ha, hno => by
    obtain ⟨t, ht, h0, ha2⟩ := (acc_succ h hs).1 ha
    have htk := ((h.get hs).2 t ht).2
    obtain ⟨l, h1, h2, h3⟩ := least_list m t.toNat (by omega) ha2 (fun j hj q => hno (j + 1) (by omega) ((acc_succ h hs).2 ⟨t, ht, h0, q⟩))
    refine ⟨s :: l, by simp [h1], List.nodup_cons.2 ⟨fun q => ?_, h2⟩, fun x hx => ?_⟩
    · obtain ⟨_, j, hj, a⟩ := h3 s q
      exact hno j (by omega) a
    · rcases List.mem_cons.1 hx with rfl | hx
      · exact ⟨hs, m + 1, Nat.le_refl _, ha⟩
      · obtain ⟨a, j, hj, b⟩ := h3 x hx
        exact ⟨a, j, by omega, b⟩
theorem least_le {m s : Nat} (hs : s < k) (ha : Acc F N m s) (hno : ∀ j, j < m → ¬ Acc F N j s) : m + 1 ≤ k := by
  obtain ⟨l, h1, h2, h3⟩ := least_list h m s hs ha hno
  have := nodup_len k l h2 fun x hx => (h3 x hx).1
  omega
theorem dst_live (hF : F.length = k) {s : Nat} (hs : s < k) : (liveL F N).getD s false = true ↔ 0 ≤ dst F N k s := by
  have hl := h.len
  have hb : ∀ s, ∀ t ∈ N.getD s [], t < (N.length : Int) := fun s t ht => by
    rcases Nat.lt_or_ge s k with z | z
    · have := ((h.get z).2 t ht).2; omega
    · rw [List.getD_eq_getElem?_getD, List.getElem?_eq_none (by omega)] at ht; cases ht
  rw [live_iff (by omega) hb (by omega)]
  constructor
  · intro q
    obtain ⟨w, hw⟩ := run_of_lv (by omega) q
    have : ∀ n, Acc F N n s → ∃ m, Acc F N m s ∧ ∀ j, j < m → ¬ Acc F N j s := by
      intro n
      induction n using Nat.strongRecOn with
      | _ n ih =>
        intro ha
        by_cases hx : ∃ j, j < n ∧ Acc F N j s
        · obtain ⟨j, hj, a⟩ := hx; exact ih j hj a
        · exact ⟨n, ha, fun j hj a => hx ⟨j, hj, a⟩⟩
    obtain ⟨m, ha, hno⟩ := this _ ⟨w, rfl, hw⟩
    have hm := least_le h hs ha hno
    rcases dst_spec h (F := F) k s hs with ⟨_, q⟩ | ⟨_, _, q, _⟩
    · exact absurd ha (q m (by omega))
    · omega
  · intro q
    rcases dst_spec h (F := F) k s hs with ⟨e, _⟩ | ⟨m, _, _, ⟨u, _, hu⟩, _⟩
    · omega
    · have := lv_of_run (Int.natCast_nonneg _) hu
      rwa [Int.toNat_natCast] at this
def endF (D : Nat → Int) (N : List (List Int)) : Nat → Nat → List Int
  | 0, _ => []
  | m + 1, s => idxP (fun t => decide (t ≥ 0) && (D t.toNat == (m : Int))) (N.getD s []) 0 :: endF D N m ((N.getD s []).getD (idxP (fun t => decide (t ≥ 0) && (D t.toNat == (m : Int))) (N.getD s []) 0).toNat 0).toNat
omit h in
theorem idxP_some {α : Type} (p : α → Bool) (d : α) : ∀ (l : List α) (b : Nat), l.any p = true → ∃ c : Nat, c < l.length ∧ idxP p l b = ((b + c : Nat) : Int) ∧ p (l.getD c d) = true ∧ ∀ j, j < c → p (l.getD j d) = false
  | [], b, q => by simp at q
  | x :: l, b, q => by
    rw [idxP]
    by_cases hx : p x = true
    · rw [if_pos hx]
      exact ⟨0, by simp, by simp, by simpa using hx, fun j hj => by omega⟩
    · rw [if_neg hx]
      have q2 : l.any p = true := by simpa [hx] using q
      obtain ⟨c, h1, h2, h3, h4⟩ := idxP_some p d l (b + 1) q2
      refine ⟨c + 1, by simp; omega, by rw [h2]; omega, by simpa using h3, fun j hj => ?_⟩
      cases j with
      | zero => simpa using hx
      | succ j => have := h4 j (by omega); simpa using this
omit h in
theorem idxP_first {α : Type} (p : α → Bool) (d : α) {l : List α} {c : Nat} (hc : c < l.length) (hp : p (l.getD c d) = true) (hn : ∀ j, j < c → p (l.getD j d) = false) : idxP p l 0 = (c : Int) := by
  have ha : l.any p = true := List.any_eq_true.2 ⟨_, getD_mem hc d, hp⟩
  obtain ⟨c', h1, h2, h3, h4⟩ := idxP_some p d l 0 ha
  rcases Nat.lt_trichotomy c c' with z | z | z
  · have := h4 c z; rw [hp] at this; cases this
  · rw [h2]; omega
  · have := hn c' z; rw [h3] at this; cases this
theorem dst_next {m s : Nat} (hs : s < k) (e : dst F N k s = ((m + 1 : Nat) : Int)) : ((N.getD s []).any fun t => decide (t ≥ 0) && (dst F N k t.toNat == (m : Int))) = true := by
  rcases dst_spec h (F := F) k s hs with ⟨e2, _⟩ | ⟨m', hm, e2, ha, hno⟩
  · omega
  · obtain rfl : m' = m + 1 := by omega
    obtain ⟨t, ht, h0, ha2⟩ := (acc_succ h hs).1 ha
    have htk := ((h.get hs).2 t ht).2
    refine List.any_eq_true.2 ⟨t, ht, ?_⟩
    simp only [Bool.and_eq_true, decide_eq_true_eq, beq_iff_eq]
    refine ⟨h0, ?_⟩
    rcases dst_spec h (F := F) k t.toNat (by omega) with ⟨_, q⟩ | ⟨m', hm', e3, ha3, hno3⟩
    · exact absurd ha2 (q m (by omega))
    · rcases Nat.lt_trichotomy m m' with z | z | z
      · exact absurd ha2 (hno3 m z)
      · rw [e3, z]
      · exact absurd ((acc_succ h hs).2 ⟨t, ht, h0, ha3⟩) (hno (m' + 1) (by omega))
theorem endF_spec : ∀ (m s : Nat), s < k → dst F N k s = (m : Int) → (endF (dst F N k) N m s).length = m ∧ endsD F N s (endF (dst F N k) N m s) = true ∧
    ∀ u : List Int, u.length = m → endsD F N s u = true → u = endF (dst F N k) N m s ∨ lexB (endF (dst F N k) N m s) u = true
  | 0, s, hs, e => by
    rcases dst_spec h (F := F) k s hs with ⟨e2, _⟩ | ⟨m', _, e2, ha, _⟩
    · omega
    · obtain rfl : m' = 0 := by omega
      refine ⟨rfl, by rw [endF, endsD_nil]; exact acc_zero.1 ha, fun u hu _ => .inl ?_⟩
      rw [List.length_eq_zero_iff.1 hu]; rfl
  | m + 1, s, hs, e => by
    have hl := h.len
    obtain ⟨c, hc, hi, hp, hn⟩ := idxP_some _ 0 (N.getD s []) 0 (dst_next h hs e)
    rw [Nat.zero_add] at hi
    simp only [Bool.and_eq_true, decide_eq_true_eq, beq_iff_eq] at hp
    have hmem := getD_mem hc (0 : Int)
    have htk := ((h.get hs).2 _ hmem).2
    have hto := toD_getD h hs hc
    obtain ⟨i1, i2, i3⟩ := endF_spec m ((N.getD s []).getD c 0).toNat (by omega) hp.2
    rw [endF, hi, Int.toNat_natCast]
    have hcast : ((((N.getD s []).getD c 0).toNat : Nat) : Int) = (N.getD s []).getD c 0 := by omega
    refine ⟨by rw [List.length_cons, i1], ?_, fun u hu he => ?_⟩
    · rw [endsD_cons (Int.natCast_nonneg _), hto, ← hcast]; exact i2
    · cases u with
      | nil => simp at hu
      | cons a u =>
        rw [endsD_cons (Int.natCast_nonneg _)] at he
        have hul : u.length = m := by simpa using hu
        have ht : 0 ≤ toD N s a := by
          rcases Int.lt_or_le (toD N s a) 0 with q | q
          · rw [endsD_neg q] at he; cases he
          · exact q
        have har : 0 ≤ a ∧ a.toNat < (N.getD s []).length := by
          have := ht
          unfold toD at this
          split at this
          · omega
          · rename_i z; rw [Int.toNat_natCast] at z; omega
        obtain ⟨a, rfl⟩ : ∃ b : Nat, a = (b : Int) := ⟨a.toNat, by omega⟩
        rw [Int.toNat_natCast] at har
        have hta := toD_getD h hs har.2
        rw [hta] at he ht
        have hmema := getD_mem har.2 (0 : Int)
        have htka := ((h.get hs).2 _ hmema).2
        have hpa : dst F N k ((N.getD s []).getD a 0).toNat = (m : Int) := by
          have hcast2 : ((((N.getD s []).getD a 0).toNat : Nat) : Int) = (N.getD s []).getD a 0 := by omega
          have hacc : Acc F N m ((N.getD s []).getD a 0).toNat := ⟨u, hul, by rw [hcast2]; exact he⟩
          rcases dst_spec h (F := F) k s hs with ⟨e2, _⟩ | ⟨m', hm', e2, _, hno⟩
          · omega
          · obtain rfl : m' = m + 1 := by omega
            rcases dst_spec h (F := F) k ((N.getD s []).getD a 0).toNat (by omega) with ⟨_, q⟩ | ⟨m', _, e3, ha3, hno3⟩
            · exact absurd hacc (q m (by omega))
            · rcases Nat.lt_trichotomy m m' with z | z | z
              · exact absurd hacc (hno3 m z)
              · rw [e3, z]
              · exact absurd ((acc_succ h hs).2 ⟨_, hmema, ht, ha3⟩) (hno (m' + 1) (by omega))
        rcases Nat.lt_trichotomy a c with z | z | z
        · have := hn a z
          simp only [hpa, beq_self_eq_true, Bool.and_true, decide_eq_false_iff_not] at this
          omega
        · subst z
          rw [← hcast] at he
          rcases i3 u hul he with q | q
          · left; rw [← q]
          · right; simp only [lexB, if_pos]; simpa using q
        · right
          simp only [lexB]
          rw [if_neg (by omega)]
          simp; omega
end
theorem lexB_app2 : ∀ {a b x y : List Int}, a.length = b.length → lexB a b = true → lexB (a ++ x) (b ++ y) = true
  | [], [], _, _, _, q => by simp [lexB] at q
  | [], _ :: _, _, _, h, _ => by simp at h
  | _ :: _, [], _, _, h, _ => by simp at h
  | a :: l, b :: m, x, y, h, q => by
    simp only [List.cons_append, lexB] at q ⊢
    split at q
    · rename_i e; rw [if_pos e]; exact lexB_app2 (by simpa using h) q
    · rename_i e; rw [if_neg e]; exact q
theorem wordsL_srt (L : Nat) : ∀ n, srt (wordsL L n)
  | 0 => by simp [wordsL, srt]
  | n + 1 => by
    rw [wordsL]
    refine List.pairwise_flatMap.2 ⟨fun w _ => ?_, ?_⟩
    · refine List.pairwise_map.2 (List.pairwise_lt_range.imp fun {a b} hab => ?_)
      rw [lexB_app]
      simp only [lexB]
      rw [if_neg (by omega)]
      simpa using hab
    · have : (wordsL L n).Pairwise fun a b => a.length = b.length ∧ lexB a b = true := by
        refine List.Pairwise.imp_of_mem (fun {a b} ha hb q => ⟨?_, q⟩) (wordsL_srt L n)
        rw [(wordsL_mem.1 ha).1, (wordsL_mem.1 hb).1]
      refine this.imp fun {a b} q x hx y hy => ?_
      obtain ⟨i, _, rfl⟩ := List.mem_map.1 hx
      obtain ⟨j, _, rfl⟩ := List.mem_map.1 hy
      exact lexB_app2 q.1 q.2
theorem uptoL_ord (L : Nat) : ∀ n, (uptoL L n).Pairwise fun a b => a.length < b.length ∨ a.length = b.length ∧ lexB a b = true
  | 0 => by simp [uptoL, wordsL]
  | n + 1 => by
    rw [uptoL]
    refine List.pairwise_append.2 ⟨uptoL_ord L n, ?_, fun x hx y hy => ?_⟩
    · refine List.Pairwise.imp_of_mem (fun {a b} ha hb q => .inr ⟨?_, q⟩) (wordsL_srt L (n + 1))
      rw [(wordsL_mem.1 ha).1, (wordsL_mem.1 hb).1]
    · have h1 := (uptoL_mem.1 hx).1
      have h2 := (wordsL_mem.1 hy).1
      left; omega
theorem end_first {L k : Nat} {N : List (List Int)} (h : NOk L k N) {F : List Bool} {m s i : Nat} (hs : s < k) (e : dst F N k s = (m : Int)) (hi : i < (uptoL L m).length)
    (hy : endsD F N s ((uptoL L m).getD i []) = true) (hn : ∀ j, j < i → endsD F N s ((uptoL L m).getD j []) = false) : (uptoL L m).getD i [] = endF (dst F N k) N m s := by
  obtain ⟨h1, h2, h3⟩ := endF_spec h m s hs e
  have hlen : ((uptoL L m).getD i []).length = m := by
    have a := (uptoL_mem.1 (getD_mem hi [])).1
    rcases Nat.lt_or_ge ((uptoL L m).getD i []).length m with z | z
    · exfalso
      rcases dst_spec h (F := F) k s hs with ⟨q, _⟩ | ⟨m', _, q, _, hno⟩
      · omega
      · exact hno _ (by omega) ⟨_, rfl, hy⟩
    · omega
  rcases h3 _ hlen hy with q | q
  · exact q
  · exfalso
    have hm : endF (dst F N k) N m s ∈ uptoL L m := by
      rw [uptoL_mem]
      refine ⟨by omega, ?_⟩
      have key : ∀ (u : List Int) (s : Nat), s < k → endsD F N s u = true → ∀ y ∈ u, 0 ≤ y ∧ y < (L : Int) := by
        intro u
        induction u with
        | nil => intro s _ _ y hy; cases hy
        | cons c u ih =>
          intro s hs he
          rw [endsD_cons (Int.natCast_nonneg _)] at he
          have ht : 0 ≤ toD N s c := by
            rcases Int.lt_or_le (toD N s c) 0 with q | q
            · rw [endsD_neg q] at he; cases he
            · exact q
          obtain ⟨g1, g2⟩ := h.get hs
          have hcr : 0 ≤ c ∧ c < ((N.getD s []).length : Int) := by
            have := ht
            unfold toD at this
            split at this
            · omega
            · rename_i z; rw [Int.toNat_natCast] at z; omega
          have hm := g2 _ ((toD_mem ht).2.2)
          intro y hy
          rcases List.mem_cons.1 hy with rfl | hy
          · omega
          · refine ih (toD N s c).toNat (by omega) ?_ y hy
            rw [show (((toD N s c).toNat : Nat) : Int) = toD N s c by omega]; exact he
      exact key _ s hs h2
    obtain ⟨j, hj, ej⟩ := List.mem_iff_getElem.1 hm
    have ej' : (uptoL L m).getD j [] = endF (dst F N k) N m s := by rw [List.getD_eq_getElem?_getD, List.getElem?_eq_getElem hj]; exact ej
    rcases Nat.lt_trichotomy j i with z | z | z
    · have := hn j z
      rw [ej', h2] at this; cases this
    · subst z
      rw [ej', lexB_irr] at q; cases q
    · have := List.pairwise_iff_getElem.1 (uptoL_ord L m) i j hi hj z
      rw [ej] at this
      have ei : (uptoL L m)[i] = (uptoL L m).getD i [] := by rw [List.getD_eq_getElem?_getD, List.getElem?_eq_getElem hi]; rfl
      rw [ei] at this
      rcases this with w | w
      · omega
      · exact lexB_asymm q w.2
def onP (N : List (List Int)) (V : List Bool) (s : Nat) : Nat → List Int
  | 0 => []
  | n + 1 => if goK N V s n then onP N V s n ++ [(n : Int)] else onP N V s n
theorem onP_len (N : List (List Int)) (V : List Bool) (s : Nat) : ∀ n, (onP N V s n).length ≤ n
  | 0 => Nat.le_refl _
  | n + 1 => by
    have := onP_len N V s n
    rw [onP]; split
    · rw [List.length_append]; simpa using this
    · omega
theorem onP_mem {N : List (List Int)} {V : List Bool} {s : Nat} {x : Int} : ∀ {n}, x ∈ onP N V s n ↔ ∃ i : Nat, i < n ∧ x = (i : Int) ∧ goK N V s i = true
  | 0 => by simp [onP]
  | n + 1 => by
    rw [onP]
    constructor
    · intro q
      split at q
      · rename_i g
        rcases List.mem_append.1 q with q | q
        · obtain ⟨i, a, b, c⟩ := onP_mem.1 q; exact ⟨i, by omega, b, c⟩
        · exact ⟨n, by omega, List.mem_singleton.1 q, g⟩
      · obtain ⟨i, a, b, c⟩ := onP_mem.1 q; exact ⟨i, by omega, b, c⟩
    · rintro ⟨i, a, b, c⟩
      rcases Nat.lt_or_ge i n with z | z
      · have := onP_mem.2 ⟨i, z, b, c⟩
        split
        · exact List.mem_append_left _ this
        · exact this
      · obtain rfl : i = n := by omega
        rw [if_pos c]; simp [b]
def cho (z : Int) (n : Nat) : Nat := (z % (n : Int)).toNat
theorem cho_lt (z : Int) {n : Nat} (h : 0 < n) : cho z n < n := by
  have := Int.emod_lt_of_pos z (show (0 : Int) < n by omega)
  have := Int.emod_nonneg z (show (n : Int) ≠ 0 by omega)
  unfold cho; omega
theorem tmod_bd (z : Int) {n : Nat} (h : 0 < n) : -(n : Int) < z.tmod n ∧ z.tmod n < n := by
  have h1 := Int.tmod_lt_of_pos z (show (0 : Int) < n by omega)
  have h2 := Int.tmod_lt_of_pos (-z) (show (0 : Int) < n by omega)
  rw [Int.neg_tmod] at h2
  omega
theorem tmod_mod (z : Int) (n : Nat) : (z.tmod n) % (n : Int) = z % n := by
  have e : z.tmod n = z - n * z.tdiv n := Int.tmod_def z n
  rw [e]; exact Int.sub_mul_emod_self_left _ _ _
theorem cho_prog (z : Int) {n : Nat} (h : 0 < n) : (z.tmod n + (n : Int)).tmod n = (cho z n : Int) := by
  have hb := tmod_bd z h
  have := Int.emod_nonneg z (show (n : Int) ≠ 0 by omega)
  rw [Int.tmod_eq_emod_of_nonneg (by omega), Int.add_emod_right, tmod_mod]
  unfold cho; omega
theorem cho_law (z : Int) {n : Nat} (h : 0 < n) : (z.tmod n < 0 ∧ z.tmod n + (n : Int) = (cho z n : Int)) ∨ (0 ≤ z.tmod n ∧ z.tmod n = (cho z n : Int)) := by
  have hb := tmod_bd z h
  have hm := tmod_mod z n
  have h0 := Int.emod_nonneg z (show (n : Int) ≠ 0 by omega)
  by_cases hn : z.tmod n < 0
  · left
    refine ⟨hn, ?_⟩
    have := Int.emod_eq_of_lt (a := z.tmod n + n) (b := n) (by omega) (by omega)
    rw [Int.add_emod_right, hm] at this
    unfold cho; omega
  · right
    refine ⟨by omega, ?_⟩
    have := Int.emod_eq_of_lt (a := z.tmod n) (b := n) (by omega) (by omega)
    rw [hm] at this
    unfold cho; omega
def nP (F : List Bool) (N : List (List Int)) (V : List Bool) (L s : Nat) : Nat := (onP N V s L).length + if F.getD s false = true then 1 else 0
def wStep (F : List Bool) (N : List (List Int)) (V : List Bool) (L : Nat) (z : Int) (x : Bool × Nat × List Int) : Bool × Nat × List Int :=
  if x.1 = true then x else
  if (onP N V x.2.1 L).length ≤ cho z (nP F N V L x.2.1) then (true, x.2) else
  (false, ((N.getD x.2.1 []).getD ((onP N V x.2.1 L).getD (cho z (nP F N V L x.2.1)) 0).toNat 0).toNat, x.2.2 ++ [(onP N V x.2.1 L).getD (cho z (nP F N V L x.2.1)) 0])
def wS (F : List Bool) (N : List (List Int)) (V : List Bool) (L st : Nat) (zs : List Int) : Nat → Bool × Nat × List Int
  | 0 => (false, st, [])
  | i + 1 => wStep F N V L (zs.getD i 0) (wS F N V L st zs i)
section
variable {L k : Nat} {N : List (List Int)} (h : NOk L k N) {F : List Bool} (hF : F.length = k)
include h hF
theorem live_of_lv {s : Nat} (hs : s < k) (q : Lv F N s) : (liveL F N).getD s false = true := by
  have hl := h.len
  refine (live_iff (by omega) (fun s t ht => ?_) (by omega)).2 q
  rcases Nat.lt_or_ge s k with z | z
  · have := ((h.get z).2 t ht).2; omega
  · rw [List.getD_eq_getElem?_getD, List.getElem?_eq_none (by omega)] at ht; cases ht
theorem nP_pos {s : Nat} (hs : s < k) (hv : (liveL F N).getD s false = true) : 0 < nP F N (liveL F N) L s := by
  unfold nP
  have hl := h.len
  obtain ⟨g1, g2⟩ := h.get hs
  cases liveL_lv hv with
  | fin q => rw [if_pos q]; omega
  | @step s t hm h0 q =>
    obtain ⟨c, hc, e⟩ := List.getElem_of_mem hm
    have e' : (N.getD s []).getD c 0 = t := by rw [List.getD_eq_getElem?_getD, List.getElem?_eq_getElem hc]; exact e
    have htk := (g2 t hm).2
    have : (c : Int) ∈ onP N (liveL F N) s L := onP_mem.2 ⟨c, by omega, rfl, by
      simp only [goK, e', live_of_lv h hF (show t.toNat < k by omega) q, Bool.and_true, decide_eq_true_eq]; exact h0⟩
    have := List.length_pos_of_mem this
    omega
omit hF in
theorem on_ok {s c : Nat} (hs : s < k) (hc : c < (onP N (liveL F N) s L).length) : ∃ a : Nat, (onP N (liveL F N) s L).getD c 0 = (a : Int) ∧ a < L ∧ 0 ≤ (N.getD s []).getD a 0 ∧ ((N.getD s []).getD a 0).toNat < k ∧ (liveL F N).getD ((N.getD s []).getD a 0).toNat false = true ∧ toD N s a = (N.getD s []).getD a 0 := by
  obtain ⟨g1, g2⟩ := h.get hs
  obtain ⟨a, ha, e, hg⟩ := onP_mem.1 (getD_mem hc 0)
  simp only [goK, Bool.and_eq_true, decide_eq_true_eq] at hg
  have hm := g2 _ (getD_memI (show a < (N.getD s []).length by omega))
  exact ⟨a, e, ha, hg.1, by omega, hg.2, toD_getD h hs (by omega)⟩
omit hF in
theorem wS_inv {st : Nat} (hst : st < k) (hv : (liveL F N).getD st false = true) (zs : List Int) : ∀ i, (wS F N (liveL F N) L st zs i).2.1 < k ∧ (liveL F N).getD (wS F N (liveL F N) L st zs i).2.1 false = true ∧
    runD N st (wS F N (liveL F N) L st zs i).2.2 = ((wS F N (liveL F N) L st zs i).2.1 : Int) ∧ (wS F N (liveL F N) L st zs i).2.2.length ≤ i
  | 0 => ⟨hst, hv, rfl, Nat.le_refl _⟩
  | i + 1 => by
    obtain ⟨h1, h2, h3, h4⟩ := wS_inv hst hv zs i
    rw [wS, wStep]
    generalize wS F N (liveL F N) L st zs i = x at *
    split
    · exact ⟨h1, h2, h3, by omega⟩
    · split
      · exact ⟨h1, h2, h3, by show x.2.2.length ≤ _; omega⟩
      · rename_i hc
        obtain ⟨a, e, ha, h0, hk, hl, ht⟩ := on_ok (F := F) h h1 (show cho (zs.getD i 0) (nP F N (liveL F N) L x.2.1) < _ by omega)
        dsimp only
        rw [e, Int.toNat_natCast]
        refine ⟨hk, hl, ?_, by simp; omega⟩
        rw [runD_app, h3, if_neg (by omega), ht]
        omega
end
theorem wS_stop {F : List Bool} {N : List (List Int)} {V : List Bool} {L st : Nat} {zs : List Int} {i : Nat} (h : (wS F N V L st zs i).1 = true) : ∀ j, wS F N V L st zs (i + j) = wS F N V L st zs i
  | 0 => rfl
  | j + 1 => by
    rw [← Nat.add_assoc, wS, wS_stop h j, wStep, if_pos h]
theorem wS_end {F : List Bool} {N : List (List Int)} {V : List Bool} {L st : Nat} {zs : List Int} {i m : Nat} (h : (wS F N V L st zs i).1 = true) (hm : i ≤ m) : wS F N V L st zs m = wS F N V L st zs i := by
  have := wS_stop h (m - i)
  rwa [show i + (m - i) = m by omega] at this
set_option maxHeartbeats 16000000 in
theorem c_SomeG (L st : Int) (x y : Bool) (A B : List (List D)) (most many : Int) (xs : List (List Int)) (hit : IterC Try.prog 19 [.ref [i64 L, i64 st, .sl x A, .sl y B] 0, .ref [i64 most] 0] (fun x => .sl false (ints x)) xs) (hm : 0 < many) (hm2 : many ≤ 1000000) :
    Contract Try.prog 13 [.agg [i64 L, i64 st, .sl x A, .sl y B], i64 most, i64 many] (.sl false (iis (xs.take many.toNat))) [] := by
  refine contract_of_awp2V ttok (rs := [.tmp 6]) Try.func13 rfl Try.ntmps13 (by simp) rfl fun E hE => ?_
  have d1 : decide (many ≤ 0) = false := by simp; omega
  (refine awp2_seqL (awp_reg ttok ?_); simp (maxSteps := 4000000) only [↓reduceIte, Nat.reduceLT, Nat.reduceEqDiff, reduceCtorEq, Nat.reduceAdd, Nat.reduceMul, Int.reduceLE, Int.reduceLT, Int.reduceToNat, Nat.reduceLeDiff, Nat.reduceSub, Int.reduceEq, Nat.reduceBEq, evB, tyA, then2_n]; (repeat (with_reducible refine And.intro ?_ ?_; exact sdX)))
  (refine awp2_seqL (awp_reg ttok ?_); simp (maxSteps := 4000000) only [↓reduceIte, Nat.reduceLT, Nat.reduceEqDiff, reduceCtorEq, Nat.reduceAdd, Nat.reduceMul, Int.reduceLE, Int.reduceLT, Int.reduceToNat, Nat.reduceLeDiff, Nat.reduceSub, Int.reduceEq, Nat.reduceBEq, evB, tyA, then2_n]; (repeat (with_reducible refine And.intro ?_ ?_; exact sdX)))
  refine awp2_seqL ?_
  (repeat (first | refine awp_seq ?_ | refine awp_block ?_ | ((first | refine awp_skip ?_ | refine awp_exit ?_ | refine awp_reg ttok ?_ | (refine awp_draw ttok ?dr_calm ?_; (case dr_calm => decide +kernel)) | refine awp_condM ?_); simp (maxSteps := 4000000) only [↓reduceIte, Nat.reduceLT, Nat.reduceEqDiff, reduceCtorEq, Nat.reduceAdd, Nat.reduceMul, Int.reduceLE, Int.reduceLT, Int.reduceToNat, Nat.reduceLeDiff, Nat.reduceSub, Int.reduceEq, Nat.reduceBEq, evB, tyA, d1]; (repeat (with_reducible refine And.intro ?_ ?_; exact sdX)); (with_reducible first | refine awp_id ?_ | refine id_call ?_ | refine id_and ?_ | refine id_ex ?_ | refine id_all ?_ | refine id_nat ?_ | refine id_le ?_))))
  refine awp_skip ?_
  rw [then2_n]
  refine awp2_seqR (awp2_seqL (awp_reg ttok ?_))
  simp (maxSteps := 4000000) only [↓reduceIte, Nat.reduceLT, Nat.reduceEqDiff, reduceCtorEq, Nat.reduceAdd, Nat.reduceMul, Int.reduceLE, Int.reduceLT, Int.reduceToNat, Nat.reduceLeDiff, Nat.reduceSub, Int.reduceEq, Nat.reduceBEq, evB, tyA, then2_n]
  (repeat (with_reducible refine And.intro ?_ ?_; exact sdX))
  refine callVC_mk fnok11 (c_All L st x y A B most) rfl ?_
  simp (maxSteps := 4000000) only [↓reduceIte, Nat.reduceLT, Nat.reduceEqDiff, reduceCtorEq, Nat.reduceAdd, Nat.reduceMul, Int.reduceLE, Int.reduceLT, Int.reduceToNat, Nat.reduceLeDiff, Nat.reduceSub, Int.reduceEq, Nat.reduceBEq, evB, tyA, then2_n]
  (repeat (with_reducible refine And.intro ?_ ?_; exact sdX))
  refine awp2_pure 5 (d := .ptr 1001 0 0) evX (by simp (maxSteps := 4000000) only [↓reduceIte, Nat.reduceLT, Nat.reduceEqDiff, reduceCtorEq, Nat.reduceAdd, Nat.reduceMul, Int.reduceLE, Int.reduceLT, Int.reduceToNat, Nat.reduceLeDiff, Nat.reduceSub, Int.reduceEq, Nat.reduceBEq, evB]; rfl) evX ?_
  refine awp2_le (st' := mkS 24 [(5, .ref [i64 many] 0), (7, .ptr 2000 0 0), (13, .fn (.func 19) 0 [.ref [i64 L, i64 st, .sl x A, .sl y B] 0, .ref [i64 most] 0])] [(2000, { sz := 1, rows := [[.sl true []]], flat := false })]) ?_ (mkS_le rfl ?_ ?_)
  rotate_left
  · exact evX
  · simp (maxSteps := 4000000) only [↓reduceIte, Nat.reduceLT, Nat.reduceEqDiff, reduceCtorEq, Nat.reduceAdd, Nat.reduceMul, Int.reduceLE, Int.reduceLT, Int.reduceToNat, Nat.reduceLeDiff, Nat.reduceSub, Int.reduceEq, Nat.reduceBEq, evB]
    rfl
  refine awp2_own_nilC 2000 0 0 9000 1 (o := { sz := 1, rows := [[.sl true []]], flat := false }) (by decide) rfl rfl rfl rfl ?_
  refine awp2_block (awp2_range 24 [(5, .ref [i64 many] 0), (7, .ptr 2000 0 0)] (fun pre => [(2000, { sz := 1, rows := [[.own 9000 0 pre.length]], flat := false }), (9000, { sz := 1, rows := iis pre })]) [2000] (fun pre => (pre.length : Int) < many) (fun e pre => e = .exit 0 ∧ (pre.length : Int) = many) hE hm (mkS_le rfl ?_ ?_) rfl (fun _ => rfl) (fun _ => rfl) rfl fnok19 rfl hit (fun _ => rfl) (by decide) ?_ ?_ ?_)
  · exact evX
  · simp (maxSteps := 4000000) only [↓reduceIte, Nat.reduceLT, Nat.reduceEqDiff, reduceCtorEq, Nat.reduceAdd, Nat.reduceMul, Int.reduceLE, Int.reduceLT, Int.reduceToNat, Nat.reduceLeDiff, Nat.reduceSub, Int.reduceEq, Nat.reduceBEq, evB]
    rfl
  · intro pre w hi hp l E0
    refine awpI_reg ttok ?_
    simp (maxSteps := 4000000) only [↓reduceIte, Nat.reduceLT, Nat.reduceEqDiff, reduceCtorEq, Nat.reduceAdd, Nat.reduceMul, Int.reduceLE, Int.reduceLT, Int.reduceToNat, Nat.reduceLeDiff, Nat.reduceSub, Int.reduceEq, Nat.reduceBEq, evB, tyA]
    (repeat (with_reducible refine And.intro ?_ ?_; exact sdX))
    refine ⟨rfl, fun E1 => ?_⟩
    refine awpI_le (st' := mkS 24 [(5, .ref [i64 many] 0), (7, .ptr 2000 0 0), (8, .sl false (ints w))] [(2000, { sz := 1, rows := [[.own 9000 0 pre.length]], flat := false, pin := true }), (9000, { sz := 1, rows := iis pre })]) ?_ (mkS_le rfl ?_ ⟨rfl, rfl, trivial⟩)
    rotate_left
    · exact evX
    refine awpI_block ?_
    have y1 : iis pre ++ [[.sl false (ints w)]] = iis (pre ++ [w]) := by simp [iis]
    have y2 : (iis pre).take pre.length = iis pre := List.take_of_length_le (by rw [iis_len]; exact Nat.le_refl _)
    have y3 : (∀ row ∈ [[D.sl false (ints w)]], row.length = 1) = True := by simp
    (refine awpI_seq (awpI_reg ttok ?_); simp (maxSteps := 4000000) only [↓reduceIte, Nat.reduceLT, Nat.reduceEqDiff, reduceCtorEq, Nat.reduceAdd, Nat.reduceMul, Int.reduceLE, Int.reduceLT, Int.reduceToNat, Nat.reduceLeDiff, Nat.reduceSub, Int.reduceEq, Nat.reduceBEq, evB, tyA, thenI_n, y1, y2, y3, iis_len]; (repeat (with_reducible refine And.intro ?_ ?_; exact sdX)))
    have y4 : (pre ++ [w]).length = pre.length + 1 := by simp
    by_cases hl : ((pre.length + 1 : Nat) : Int) ≥ many
    · have d2 : decide (((pre.length + 1 : Nat) : Int) ≥ many) = true := by simpa using hl
      (refine awpI_seq (awpI_reg ttok ?_); simp (maxSteps := 4000000) only [↓reduceIte, Nat.reduceLT, Nat.reduceEqDiff, reduceCtorEq, Nat.reduceAdd, Nat.reduceMul, Int.reduceLE, Int.reduceLT, Int.reduceToNat, Nat.reduceLeDiff, Nat.reduceSub, Int.reduceEq, Nat.reduceBEq, evB, tyA, thenI_n, d2]; (repeat (with_reducible refine And.intro ?_ ?_; exact sdX)))
      refine awpI_cond (t := true) evX (fun _ => awpI_exit ?_) (fun q => by cases q)
      refine ⟨⟨rfl, by rw [y4]; omega⟩, ?_⟩
      simp only [pinned, List.map_cons, List.map_nil, y4]
      simp (maxSteps := 4000000) only [↓reduceIte, Nat.reduceLT, Nat.reduceEqDiff, reduceCtorEq, Nat.reduceAdd, Nat.reduceMul, Int.reduceLE, Int.reduceLT, Int.reduceToNat, Nat.reduceLeDiff, Nat.reduceSub, Int.reduceEq, Nat.reduceBEq, evB]
      try exact ⟨rfl, rfl, trivial⟩
    · have d2 : decide (((pre.length + 1 : Nat) : Int) ≥ many) = false := by simpa using hl
      (refine awpI_seq (awpI_reg ttok ?_); simp (maxSteps := 4000000) only [↓reduceIte, Nat.reduceLT, Nat.reduceEqDiff, reduceCtorEq, Nat.reduceAdd, Nat.reduceMul, Int.reduceLE, Int.reduceLT, Int.reduceToNat, Nat.reduceLeDiff, Nat.reduceSub, Int.reduceEq, Nat.reduceBEq, evB, tyA, thenI_n, d2]; (repeat (with_reducible refine And.intro ?_ ?_; exact sdX)))
      refine awpI_cond (t := false) evX (fun q => by cases q) (fun _ => awpI_skip ?_)
      refine ⟨by show ((pre ++ [w]).length : Int) < many; rw [y4]; omega, ?_⟩
      simp only [pinned, List.map_cons, List.map_nil, y4]
      simp (maxSteps := 4000000) only [↓reduceIte, Nat.reduceLT, Nat.reduceEqDiff, reduceCtorEq, Nat.reduceAdd, Nat.reduceMul, Int.reduceLE, Int.reduceLT, Int.reduceToNat, Nat.reduceLeDiff, Nat.reduceSub, Int.reduceEq, Nat.reduceBEq, evB]
      try exact ⟨rfl, rfl, trivial⟩
  · intro hi
    have ht : xs.take many.toNat = xs := List.take_of_length_le (by omega)
    refine (show ∀ E2, AWP Try.prog E2 _ _ _ from fun E2 => ?_)
    (repeat (first | refine awp_seq ?_ | refine awp_block ?_ | ((first | refine awp_skip ?_ | refine awp_exit ?_ | refine awp_reg ttok ?_ | (refine awp_draw ttok ?dr_calm ?_; (case dr_calm => decide +kernel)) | refine awp_condM ?_); simp (maxSteps := 4000000) only [↓reduceIte, Nat.reduceLT, Nat.reduceEqDiff, reduceCtorEq, Nat.reduceAdd, Nat.reduceMul, Int.reduceLE, Int.reduceLT, Int.reduceToNat, Nat.reduceLeDiff, Nat.reduceSub, Int.reduceEq, Nat.reduceBEq, evB, tyA]; (repeat (with_reducible refine And.intro ?_ ?_; exact sdX)); (with_reducible first | refine awp_id ?_ | refine id_call ?_ | refine id_and ?_ | refine id_ex ?_ | refine id_all ?_ | refine id_nat ?_ | refine id_le ?_))))
    refine awp_pure 6 (d := .own 9000 0 xs.length) (d' := .sl false (iis (xs.take many.toNat))) (ids := [9000]) (p := xs.length ≤ (iis xs).length) evX (by simp (maxSteps := 4000000) only [↓reduceIte, Nat.reduceLT, Nat.reduceEqDiff, reduceCtorEq, Nat.reduceAdd, Nat.reduceMul, Int.reduceLE, Int.reduceLT, Int.reduceToNat, Nat.reduceLeDiff, Nat.reduceSub, Int.reduceEq, Nat.reduceBEq, evB, iis_take, List.take_length, ht]) (by rw [iis_len]; exact Nat.le_refl _) ?_
    exact awp_ret (endsV [] (.inr rfl) (by simp (maxSteps := 4000000) only [↓reduceIte, Nat.reduceLT, Nat.reduceEqDiff, reduceCtorEq, Nat.reduceAdd, Nat.reduceMul, Int.reduceLE, Int.reduceLT, Int.reduceToNat, Nat.reduceLeDiff, Nat.reduceSub, Int.reduceEq, Nat.reduceBEq, evB]; rfl) trivial)
  · rintro e pre he hp ⟨rfl, hq⟩
    rw [blockA, if_pos rfl]
    have ht : xs.take many.toNat = pre := by
      obtain ⟨m, rfl⟩ := hp
      rw [show many.toNat = pre.length by omega]
      simp
    refine (show ∀ E2, AWP Try.prog E2 _ _ _ from fun E2 => ?_)
    (repeat (first | refine awp_seq ?_ | refine awp_block ?_ | ((first | refine awp_skip ?_ | refine awp_exit ?_ | refine awp_reg ttok ?_ | (refine awp_draw ttok ?dr_calm ?_; (case dr_calm => decide +kernel)) | refine awp_condM ?_); simp (maxSteps := 4000000) only [↓reduceIte, Nat.reduceLT, Nat.reduceEqDiff, reduceCtorEq, Nat.reduceAdd, Nat.reduceMul, Int.reduceLE, Int.reduceLT, Int.reduceToNat, Nat.reduceLeDiff, Nat.reduceSub, Int.reduceEq, Nat.reduceBEq, evB, tyA]; (repeat (with_reducible refine And.intro ?_ ?_; exact sdX)); (with_reducible first | refine awp_id ?_ | refine id_call ?_ | refine id_and ?_ | refine id_ex ?_ | refine id_all ?_ | refine id_nat ?_ | refine id_le ?_))))
    refine awp_pure 6 (d := .own 9000 0 pre.length) (d' := .sl false (iis (xs.take many.toNat))) (ids := [9000]) (p := pre.length ≤ (iis pre).length) evX (by simp (maxSteps := 4000000) only [↓reduceIte, Nat.reduceLT, Nat.reduceEqDiff, reduceCtorEq, Nat.reduceAdd, Nat.reduceMul, Int.reduceLE, Int.reduceLT, Int.reduceToNat, Nat.reduceLeDiff, Nat.reduceSub, Int.reduceEq, Nat.reduceBEq, evB, iis_take, List.take_length, ht]) (by rw [iis_len]; exact Nat.le_refl _) ?_
    exact awp_ret (endsV [] (.inr rfl) (by simp (maxSteps := 4000000) only [↓reduceIte, Nat.reduceLT, Nat.reduceEqDiff, reduceCtorEq, Nat.reduceAdd, Nat.reduceMul, Int.reduceLE, Int.reduceLT, Int.reduceToNat, Nat.reduceLeDiff, Nat.reduceSub, Int.reduceEq, Nat.reduceBEq, evB]; rfl) trivial)
end Go.Proofs.Ytglcnghfmdcdpaa
