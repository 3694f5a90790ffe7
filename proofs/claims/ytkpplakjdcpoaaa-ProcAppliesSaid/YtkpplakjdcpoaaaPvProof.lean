import Derived.Test.YtkpplakjdcpoaaaPl
import Derived.Test.YtkpplakjdcpoaaaPe
import Derived.Test.YtkpplakjdcpoaaaRows
import Derived.Test.YtkpplakjdcpoaaaFin
set_option linter.unusedSimpArgs false
set_option linter.unusedVariables false
namespace Go.Proofs.Ytkpplakjdcpoaaa
open Go.Ab
theorem acts_nodup (l : List Lab) (part : Int) : ∀ n, (acts l part n).Nodup
  | 0 => by simp [acts]
  | n + 1 => by
    rw [acts, List.nodup_append]
    refine ⟨acts_nodup l part n, ?_, fun x hx y hy e => ?_⟩
    · unfold actOf; split
      · simp
      · split <;> simp
    · obtain ⟨j, h1, h2, _⟩ := acts_in l part n x hx
      have h3 : y.2 = (n : Int) := by
        unfold actOf at hy
        split at hy
        · simp at hy; rw [hy]
        · split at hy
          · simp at hy; rw [hy]
          · cases hy
      rw [← e, h2] at h3
      omega
theorem findA_at {A : List (Int × Int)} (hn : A.Nodup) {i : Nat} (h : i < A.length) : findA A (A.getD i (0, 0)) = (i : Int) := by
  have e : A.getD i (0, 0) = A[i] := by simp [List.getD, List.getElem?_eq_getElem h]
  rw [e]
  unfold findA
  rw [if_pos (by simp)]
  rw [List.Nodup.idxOf_getElem hn]
theorem acts_dir (lb : List Lab) (part : Int) : ∀ n, ∀ x ∈ acts lb part n, x.1 = 1 ∨ x.1 = 2
  | 0, x, hx => by simp [acts] at hx
  | n + 1, x, hx => by
    rw [acts] at hx
    rcases List.mem_append.1 hx with h | h
    · exact acts_dir lb part n x h
    · unfold actOf at h
      split at h
      · simp at h; rw [h]; exact .inl rfl
      · split at h
        · simp at h; rw [h]; exact .inr rfl
        · cases h
theorem last8_snoc (h : List Int) (k : Int) : last8 (last8 h ++ [k]) = last8 (h ++ [k]) := by
  unfold last8
  simp only [List.length_append, List.length_drop, List.length_cons, List.length_nil]
  by_cases q : h.length ≤ 8
  · rw [show h.length - 8 = 0 by omega, List.drop_zero]; rfl
  · rw [show h.length - (h.length - 8) + (0 + 1) - 8 = 1 by omega]
    rw [List.drop_append_of_le_length (by rw [List.length_drop]; omega), List.drop_drop, List.drop_append_of_le_length (by omega)]
    congr 2
    omega
def sm (h : List Int) : Int × List Int := ((h.length : Int), last8 h)
def sms (hs : List (List Int)) : List (Int × List Int) := hs.map sm
theorem sms_len (hs : List (List Int)) : (sms hs).length = hs.length := by simp [sms]
theorem sms_get {hs : List (List Int)} {i : Nat} (h : i < hs.length) : (sms hs).getD i (0, []) = (((hs.getD i []).length : Int), last8 (hs.getD i [])) := by
  simp [sms, sm, List.getD, List.getElem?_eq_getElem h]
theorem sms_set (hs : List (List Int)) {o : Nat} (h : o < hs.length) (k : Int) :
    (sms hs).set o (((sms hs).getD o (0, [])).1 + 1, last8 (((sms hs).getD o (0, [])).2 ++ [k])) = sms (hs.set o (hs.getD o [] ++ [k])) := by
  rw [sms_get h]
  simp only [last8_snoc]
  unfold sms
  rw [List.map_set]
  congr 1
  unfold sm
  simp
structure Kept (y : Img) (hs : List (List Int)) (ts : List Int) : Prop where
  S : y.S = sms hs
  K : y.K = ts
  lh : hs.length = 3
  lt : ts.length = 3
theorem Kept.take {y : Img} {hs : List (List Int)} {ts : List Int} (h : Kept y hs ts) (lb : List Lab) {k o : Nat} (s : Int) (he : otherN lb (2, (k : Int)) = o) : Kept (didI lb y (2, (k : Int)) s) hs (ts.set o (ts.getD o 0 + 1)) := by
  unfold didI
  rw [if_pos rfl, he]
  exact ⟨h.S, by simp only [h.K], h.lh, by rw [List.length_set]; exact h.lt⟩
theorem Kept.send {y : Img} {hs : List (List Int)} {ts : List Int} (h : Kept y hs ts) (lb : List Lab) {k o : Nat} (s : Int) (ho : o < 3) (he : otherN lb (1, (k : Int)) = o) : Kept (didI lb y (1, (k : Int)) s) (hs.set o (hs.getD o [] ++ [(k : Int)])) ts := by
  unfold didI
  rw [if_neg (by simp), he]
  refine ⟨?_, h.K, by rw [List.length_set]; exact h.lh, h.lt⟩
  simp only [h.S]
  exact sms_set hs (by have := h.lh; omega) _
def srow (hs : List (List Int)) : List D := hs.map fun h => .sl false (ints h)
theorem srow_len (hs : List (List Int)) : (srow hs).length = hs.length := by simp [srow]
theorem srow_get {hs : List (List Int)} {k : Nat} (h : k < hs.length) : (srow hs).getD k .junk = .sl false (ints (hs.getD k [])) := by
  simp [srow, List.getD, List.getElem?_eq_getElem h]
theorem srow_set {hs : List (List Int)} {k : Nat} (h : k < hs.length) (m : List Int) : List.take k (srow hs) ++ (.sl false (ints m) :: List.drop (k + 1) (srow hs)) = srow (hs.set k m) := by
  have : (srow hs).set k (.sl false (ints m)) = srow (hs.set k m) := by simp [srow, List.map_set]
  rw [← this, List.set_eq_take_append_cons_drop, if_pos (by rw [srow_len]; exact h)]
def arow (p : List Int) : List D := p.map fun x => i64 x
theorem arow_len (p : List Int) : (arow p).length = p.length := by simp [arow]
theorem arow_get {p : List Int} {k : Nat} (h : k < p.length) : (arow p).getD k .junk = i64 (p.getD k 0) := by
  simp [arow, List.getD, List.getElem?_eq_getElem h]
theorem arow_set {p : List Int} {k : Nat} (h : k < p.length) (v : Int) : List.take k (arow p) ++ (i64 v :: List.drop (k + 1) (arow p)) = arow (p.set k v) := by
  have : (arow p).set k (i64 v) = arow (p.set k v) := by simp [arow, List.map_set]
  rw [← this, List.set_eq_take_append_cons_drop, if_pos (by rw [arow_len]; exact h)]
theorem apply_can {x : Pr} (hx : PWf x) (hn : x.A.Nodup) {lb : List Lab} {y : Img} {a : Nat} (ha : a < x.A.length) (hL : x.L = x.A.length) {s : Nat} (hs : y.s = (s : Int)) (hsn : s < x.N.length) :
    applyI x lb y (a : Int) = if 0 ≤ (x.N.getD s []).getD a 0 then some (didI lb y (x.A.getD a (0, 0)) ((x.N.getD s []).getD a 0)) else none := by
  unfold applyI
  rw [if_pos ⟨by omega, by omega⟩, Int.toNat_natCast, findA_at hn ha, hs, toD_good hx.ok hsn (by omega)]
theorem cell_lt {x : Pr} (hx : PWf x) {a s : Nat} (ha : a < x.L) (hsn : s < x.N.length) : (x.N.getD s []).getD a 0 < (x.N.length : Int) := by
  have := toD_ok hx.ok (s : Int) (a : Int)
  rw [toD_good hx.ok hsn ha] at this
  have := hx.n.1
  omega
structure POk (lb : List Lab) (st : Nat) (F : List Bool) (N : List (List Int)) (part : Int) (x : Pr) : Prop where
  wf : PWf x
  p : x.p = part
  A : x.A = acts lb part lb.length
  L : x.L = x.A.length
  s0 : x.st = 0
  of : ∀ f, Contract Try.prog 16 [dfaD lb.length st F N, .sl f (tri lb), i64 part] (.tup [dfaD x.L 0 x.F x.N, .sl false (duo x.A), i64 0]) []
section
variable {k : Nat} {N : List (List Int)} {lb : List Lab}
theorem peers_pick (h : NOk lb.length k N) (hL : lb.length ≤ 1000) (hk : 1 ≤ k ∧ k ≤ 10) (st : Nat) (hst : st < k) (F : List Bool) (hF : F.length = k) (hv : (liveL F N).getD st false = true) :
    ∃ g : Int → Pr, ∀ p, POk lb st F N p (g p) := by
  have key : ∀ p : Int, ∃ x : Pr, POk lb st F N p x := fun p => by
    rcases hide_says h hL hk st hst F hF p with ⟨_, j, H, Y, h1, h2, hY, hH, hOf, _⟩ | ⟨h0, _⟩
    · have hal := acts_len lb p lb.length
      have hl := hY.len
      refine ⟨⟨p, acts lb p lb.length, (acts lb p lb.length).length, 0, H, Y⟩, ⟨by simp only [hl]; exact hY, by simp only [hl]; exact hH, by simp only [hl]; exact ⟨h1, h2⟩, by simp only [hl]; omega, by simp only; omega⟩, rfl, rfl, rfl, rfl, hOf⟩
    · rw [hv] at h0; cases h0
  exact Classical.axiomOfChoice key
def prs (l : List Pr) : List (List D) := l.map fun x => prC x
theorem prs_len (l : List Pr) : (prs l).length = l.length := by simp [prs]
theorem prs_app (l m : List Pr) : prs l ++ prs m = prs (l ++ m) := by simp [prs]
theorem prs_row (l : List Pr) : (∀ row ∈ prs l, row.length = 6) = True := by
  simp only [prs, List.mem_map, eq_iff_iff, iff_true]
  rintro row ⟨x, _, rfl⟩; rfl
def firstP (g : Int → Pr) (n : Nat) : List Pr := (List.range n).map fun (i : Nat) => g (i : Int)
theorem firstP_len (g : Int → Pr) (n : Nat) : (firstP g n).length = n := by simp [firstP]
theorem firstP_succ (g : Int → Pr) (n : Nat) : firstP g (n + 1) = firstP g n ++ [g (n : Int)] := by simp [firstP, List.range_succ]
theorem prs_get {g : Int → Pr} {n i : Nat} (h : i < n) : (prs (firstP g n)).getD i [] = prC (g (i : Int)) := by
  simp [prs, firstP, List.getD, h]
theorem prs_zero (g : Int → Pr) : prs (firstP g 0) = [] := rfl
set_option maxHeartbeats 16000000 in
theorem c_Peers (h : NOk lb.length k N) (st : Nat) (F : List Bool) (f : Bool) {g : Int → Pr} (hg : ∀ p, POk lb st F N p (g p)) :
    Contract Try.prog 6 [dfaD lb.length st F N, .sl f (tri lb)] (.tup [.sl false (prs (firstP g 3)), bo true]) [] := by
  refine contract_of_awp (rs := [4, 5]) Try.func6 rfl Try.ntmps6 (by simp) rfl fun E => ?_
  have k1 : ((0 : Int) != 0) = false := rfl
  have hz := prs_zero g
  (repeat (first | refine awp_seq ?_ | refine awp_block ?_ | ((first | refine awp_skip ?_ | refine awp_exit ?_ | refine awp_reg ttok ?_ | (refine awp_draw ttok ?dr_calm ?_; (case dr_calm => decide +kernel)) | refine awp_condM ?_); simp (maxSteps := 4000000) only [↓reduceIte, Nat.reduceLT, Nat.reduceEqDiff, reduceCtorEq, Nat.reduceAdd, Nat.reduceMul, Int.reduceLE, Int.reduceLT, Int.reduceToNat, Nat.reduceLeDiff, Nat.reduceSub, Int.reduceEq, Nat.reduceBEq, evB, tyA, dfaD]; (repeat (with_reducible refine And.intro ?_ ?_; exact sdX)); (with_reducible first | refine awp_id ?_ | refine id_call ?_ | refine id_and ?_ | refine id_ex ?_ | refine id_all ?_ | refine id_nat ?_ | refine id_le ?_))))
  refine awp_loop (X := Nat) (fun i => mkS 46 [(1, .sl f (tri lb)), (2, .ptr 1000 0 0), (6, .own 2000 0 i), (7, i64 i)] [(1000, { sz := 4, rows := [[i64 lb.length, i64 st, .sl false (bos F), .sl false (iis N)]], flat := false }), (2000, { sz := 6, rows := prs (firstP g i) })]) (fun i => i ≤ 3) (fun i => 3 - i) 0 (Nat.zero_le _) (mkS_le rfl ?_ ?_) ?_
  · simp (maxSteps := 4000000) only [↓reduceIte, Nat.reduceLT, Nat.reduceEqDiff, reduceCtorEq, Nat.reduceAdd, Nat.reduceMul, Int.reduceLE, Int.reduceLT, Int.reduceToNat, Nat.reduceLeDiff, Nat.reduceSub, Int.reduceEq, Nat.reduceBEq, evB]
    try rfl
  · simp (maxSteps := 4000000) only [↓reduceIte, Nat.reduceLT, Nat.reduceEqDiff, reduceCtorEq, Nat.reduceAdd, Nat.reduceMul, Int.reduceLE, Int.reduceLT, Int.reduceToNat, Nat.reduceLeDiff, Nat.reduceSub, Int.reduceEq, Nat.reduceBEq, evB, hz]
    try rfl
  · intro i hi
    have hfl := firstP_len g i
    by_cases hlt : i < 3
    · have d1 : decide ((i : Int) < 3) = true := by simp; omega
      obtain ⟨i', hi'⟩ : ∃ i', i' = i + 1 := ⟨_, rfl⟩
      have hwi : IntKind.i64.wrap ((i : Int) + 1) = (i' : Int) := by rw [hi']; exact i64_in (by omega) (by omega)
      have hs := firstP_succ g i
      rw [← hi'] at hs
      have hx := hg (i : Int)
      generalize g (i : Int) = x at *
      have hof := hx.of f
      have hw := hx.wf
      have hfm := c_Formed hw.ok (by rw [hx.L]; exact hw.a) ⟨hw.n.1, by have := hw.n.2; omega⟩ 0 (by have := hw.s; rw [hx.s0] at this; exact this) x.F hw.F
      have hrow : [[i64 i, .sl false (duo x.A), i64 x.L, i64 ((0 : Nat) : Int), .sl false (bos x.F), .sl false (iis x.N)]] = prs [x] := by simp [prs, prC, hx.p, hx.s0]
      have hap : prs (firstP g i) ++ prs [x] = prs (firstP g i') := by rw [prs_app, hs]
      have k2 : ((x.L : Int) != (x.A.length : Int)) = false := by rw [hx.L]; simp
      have hl1 : (prs [x]).length = 1 := rfl
      have ht1 : (prs [x]).take 1 = prs [x] := rfl
      have hti : (prs (firstP g i)).take i = prs (firstP g i) := by rw [List.take_of_length_le]; rw [prs_len, hfl]; exact Nat.le_refl _
      (repeat (first | refine awp_seq ?_ | refine awp_block ?_ | ((first | refine awp_skip ?_ | refine awp_exit ?_ | refine awp_reg ttok ?_ | (refine awp_draw ttok ?dr_calm ?_; (case dr_calm => decide +kernel)) | refine awp_condM ?_); simp (maxSteps := 4000000) only [↓reduceIte, Nat.reduceLT, Nat.reduceEqDiff, reduceCtorEq, Nat.reduceAdd, Nat.reduceMul, Int.reduceLE, Int.reduceLT, Int.reduceToNat, Nat.reduceLeDiff, Nat.reduceSub, Int.reduceEq, Nat.reduceBEq, evB, tyA, d1]; (repeat (with_reducible refine And.intro ?_ ?_; exact sdX)); (with_reducible first | refine awp_id ?_ | refine id_call ?_ | refine id_and ?_ | refine id_ex ?_ | refine id_all ?_ | refine id_nat ?_ | refine id_le ?_))))
      refine callVC_mk fnok16 hof rfl ?_
      simp (maxSteps := 4000000) only [↓reduceIte, Nat.reduceLT, Nat.reduceEqDiff, reduceCtorEq, Nat.reduceAdd, Nat.reduceMul, Int.reduceLE, Int.reduceLT, Int.reduceToNat, Nat.reduceLeDiff, Nat.reduceSub, Int.reduceEq, Nat.reduceBEq, evB, tyA, dfaD]
      (repeat (with_reducible refine And.intro ?_ ?_; exact sdX))
      (repeat (first | refine awp_seq ?_ | refine awp_block ?_ | ((first | refine awp_skip ?_ | refine awp_exit ?_ | refine awp_reg ttok ?_ | (refine awp_draw ttok ?dr_calm ?_; (case dr_calm => decide +kernel)) | refine awp_condM ?_); simp (maxSteps := 4000000) only [↓reduceIte, Nat.reduceLT, Nat.reduceEqDiff, reduceCtorEq, Nat.reduceAdd, Nat.reduceMul, Int.reduceLE, Int.reduceLT, Int.reduceToNat, Nat.reduceLeDiff, Nat.reduceSub, Int.reduceEq, Nat.reduceBEq, evB, tyA, k1]; (repeat (with_reducible refine And.intro ?_ ?_; exact sdX)); (with_reducible first | refine awp_id ?_ | refine id_call ?_ | refine id_and ?_ | refine id_ex ?_ | refine id_all ?_ | refine id_nat ?_ | refine id_le ?_))))
      refine callVC_scal fnok17 hfm rfl ?_
      simp (maxSteps := 4000000) only [↓reduceIte, Nat.reduceLT, Nat.reduceEqDiff, reduceCtorEq, Nat.reduceAdd, Nat.reduceMul, Int.reduceLE, Int.reduceLT, Int.reduceToNat, Nat.reduceLeDiff, Nat.reduceSub, Int.reduceEq, Nat.reduceBEq, evB, tyA, duo_len, k2]
      (repeat (with_reducible refine And.intro ?_ ?_; exact sdX))
      (repeat (first | refine awp_seq ?_ | refine awp_block ?_ | ((first | refine awp_skip ?_ | refine awp_exit ?_ | refine awp_reg ttok ?_ | (refine awp_draw ttok ?dr_calm ?_; (case dr_calm => decide +kernel)) | refine awp_condM ?_); simp (maxSteps := 4000000) only [↓reduceIte, Nat.reduceLT, Nat.reduceEqDiff, reduceCtorEq, Nat.reduceAdd, Nat.reduceMul, Int.reduceLE, Int.reduceLT, Int.reduceToNat, Nat.reduceLeDiff, Nat.reduceSub, Int.reduceEq, Nat.reduceBEq, evB, tyA, duo_len, k2, hrow, hap, prs_len, prs_row, hfl, hl1, ht1, hti, hwi]; (repeat (with_reducible refine And.intro ?_ ?_; exact sdX)); (with_reducible first | refine awp_id ?_ | refine id_call ?_ | refine id_and ?_ | refine id_ex ?_ | refine id_all ?_ | refine id_nat ?_ | refine id_le ?_))))
      refine ⟨i', by omega, by omega, mkS_le rfl ?_ ?_⟩
      · simp (maxSteps := 4000000) only [↓reduceIte, Nat.reduceLT, Nat.reduceEqDiff, reduceCtorEq, Nat.reduceAdd, Nat.reduceMul, Int.reduceLE, Int.reduceLT, Int.reduceToNat, Nat.reduceLeDiff, Nat.reduceSub, Int.reduceEq, Nat.reduceBEq, evB, hi']
      · exact evX
    · have d1 : decide ((i : Int) < 3) = false := by simp; omega
      obtain rfl : i = 3 := by omega
      have hti : (prs (firstP g 3)).take 3 = prs (firstP g 3) := by rw [List.take_of_length_le]; rw [prs_len, hfl]; exact Nat.le_refl _
      (repeat (first | refine awp_seq ?_ | refine awp_block ?_ | ((first | refine awp_skip ?_ | refine awp_exit ?_ | refine awp_reg ttok ?_ | (refine awp_draw ttok ?dr_calm ?_; (case dr_calm => decide +kernel)) | refine awp_condM ?_); simp (maxSteps := 4000000) only [↓reduceIte, Nat.reduceLT, Nat.reduceEqDiff, reduceCtorEq, Nat.reduceAdd, Nat.reduceMul, Int.reduceLE, Int.reduceLT, Int.reduceToNat, Nat.reduceLeDiff, Nat.reduceSub, Int.reduceEq, Nat.reduceBEq, evB, tyA, d1]; (repeat (with_reducible refine And.intro ?_ ?_; exact sdX)); (with_reducible first | refine awp_id ?_ | refine id_call ?_ | refine id_and ?_ | refine id_ex ?_ | refine id_all ?_ | refine id_nat ?_ | refine id_le ?_))))
      refine awp_pure 4 (d := .own 2000 0 3) (d' := .sl false (prs (firstP g 3))) (ids := [2000]) (p := 3 ≤ (prs (firstP g 3)).length) evX (by simp (maxSteps := 4000000) only [↓reduceIte, Nat.reduceLT, Nat.reduceEqDiff, reduceCtorEq, Nat.reduceAdd, Nat.reduceMul, Int.reduceLE, Int.reduceLT, Int.reduceToNat, Nat.reduceLeDiff, Nat.reduceSub, Int.reduceEq, Nat.reduceBEq, evB, hti]) (by rw [prs_len, hfl]; exact Nat.le_refl _) ?_
      exact awp_ret (ends_plain (.inr rfl) rfl (by simp (maxSteps := 4000000) only [↓reduceIte, Nat.reduceLT, Nat.reduceEqDiff, reduceCtorEq, Nat.reduceAdd, Nat.reduceMul, Int.reduceLE, Int.reduceLT, Int.reduceToNat, Nat.reduceLeDiff, Nat.reduceSub, Int.reduceEq, Nat.reduceBEq, evB, St.pureSlot]))
theorem c_PeersNo (h : NOk lb.length k N) (st : Nat) (F : List Bool) (f : Bool) (hOf : Contract Try.prog 16 [dfaD lb.length st F N, .sl f (tri lb), i64 0] (.tup [noDfa, .sl true [], i64 13]) []) :
    Contract Try.prog 6 [dfaD lb.length st F N, .sl f (tri lb)] (.tup [.sl true [], bo false]) [] := by
  refine contract_of_awp (rs := [4, 5]) Try.func6 rfl Try.ntmps6 (by simp) rfl fun E => ?_
  have k1 : ((13 : Int) != 0) = true := rfl
  have d1 : decide ((0 : Int) < 3) = true := rfl
  (repeat (first | refine awp_seq ?_ | refine awp_block ?_ | ((first | refine awp_skip ?_ | refine awp_exit ?_ | refine awp_reg ttok ?_ | (refine awp_draw ttok ?dr_calm ?_; (case dr_calm => decide +kernel)) | refine awp_condM ?_); simp (maxSteps := 4000000) only [↓reduceIte, Nat.reduceLT, Nat.reduceEqDiff, reduceCtorEq, Nat.reduceAdd, Nat.reduceMul, Int.reduceLE, Int.reduceLT, Int.reduceToNat, Nat.reduceLeDiff, Nat.reduceSub, Int.reduceEq, Nat.reduceBEq, evB, tyA, dfaD]; (repeat (with_reducible refine And.intro ?_ ?_; exact sdX)); (with_reducible first | refine awp_id ?_ | refine id_call ?_ | refine id_and ?_ | refine id_ex ?_ | refine id_all ?_ | refine id_nat ?_ | refine id_le ?_))))
  refine awp_loop (X := Unit) (fun i => mkS 46 [(1, .sl f (tri lb)), (2, .ptr 1000 0 0), (7, i64 0)] [(1000, { sz := 4, rows := [[i64 lb.length, i64 st, .sl false (bos F), .sl false (iis N)]], flat := false })]) (fun i => True) (fun i => 0) () trivial (mkS_le rfl ?_ ?_) ?_
  · simp (maxSteps := 4000000) only [↓reduceIte, Nat.reduceLT, Nat.reduceEqDiff, reduceCtorEq, Nat.reduceAdd, Nat.reduceMul, Int.reduceLE, Int.reduceLT, Int.reduceToNat, Nat.reduceLeDiff, Nat.reduceSub, Int.reduceEq, Nat.reduceBEq, evB]
    try rfl
  · simp (maxSteps := 4000000) only [↓reduceIte, Nat.reduceLT, Nat.reduceEqDiff, reduceCtorEq, Nat.reduceAdd, Nat.reduceMul, Int.reduceLE, Int.reduceLT, Int.reduceToNat, Nat.reduceLeDiff, Nat.reduceSub, Int.reduceEq, Nat.reduceBEq, evB]
    try rfl
  · intro i hi
    (repeat (first | refine awp_seq ?_ | refine awp_block ?_ | ((first | refine awp_skip ?_ | refine awp_exit ?_ | refine awp_reg ttok ?_ | (refine awp_draw ttok ?dr_calm ?_; (case dr_calm => decide +kernel)) | refine awp_condM ?_); simp (maxSteps := 4000000) only [↓reduceIte, Nat.reduceLT, Nat.reduceEqDiff, reduceCtorEq, Nat.reduceAdd, Nat.reduceMul, Int.reduceLE, Int.reduceLT, Int.reduceToNat, Nat.reduceLeDiff, Nat.reduceSub, Int.reduceEq, Nat.reduceBEq, evB, tyA, d1]; (repeat (with_reducible refine And.intro ?_ ?_; exact sdX)); (with_reducible first | refine awp_id ?_ | refine id_call ?_ | refine id_and ?_ | refine id_ex ?_ | refine id_all ?_ | refine id_nat ?_ | refine id_le ?_))))
    refine callVC_mk fnok16 hOf rfl ?_
    unfold noDfa
    simp (maxSteps := 4000000) only [↓reduceIte, Nat.reduceLT, Nat.reduceEqDiff, reduceCtorEq, Nat.reduceAdd, Nat.reduceMul, Int.reduceLE, Int.reduceLT, Int.reduceToNat, Nat.reduceLeDiff, Nat.reduceSub, Int.reduceEq, Nat.reduceBEq, evB, tyA]
    (repeat (with_reducible refine And.intro ?_ ?_; exact sdX))
    (repeat (first | refine awp_seq ?_ | refine awp_block ?_ | ((first | refine awp_skip ?_ | refine awp_exit ?_ | refine awp_reg ttok ?_ | (refine awp_draw ttok ?dr_calm ?_; (case dr_calm => decide +kernel)) | refine awp_condM ?_); simp (maxSteps := 4000000) only [↓reduceIte, Nat.reduceLT, Nat.reduceEqDiff, reduceCtorEq, Nat.reduceAdd, Nat.reduceMul, Int.reduceLE, Int.reduceLT, Int.reduceToNat, Nat.reduceLeDiff, Nat.reduceSub, Int.reduceEq, Nat.reduceBEq, evB, tyA, k1]; (repeat (with_reducible refine And.intro ?_ ?_; exact sdX)); (with_reducible first | refine awp_id ?_ | refine id_call ?_ | refine id_and ?_ | refine id_ex ?_ | refine id_all ?_ | refine id_nat ?_ | refine id_le ?_))))
    exact awp_ret (ends_plain (.inr rfl) rfl evX)
end
section
variable {k : Nat} {N : List (List Int)} {lb : List Lab}
end
def N24 : List (List Int) := [[1], [-1]]
def F24 : List Bool := [false, true]
def lb24 : List Lab := [(0, 1, 0)]
def x24 (d : Int) (p : Int) : Pr := ⟨p, [(d, 0)], 1, 0, F24, N24⟩
theorem nOk24 : NOk 1 2 N24 := ⟨rfl, by decide⟩
theorem wf24 (d p : Int) : PWf (x24 d p) := ⟨nOk24, rfl, (show 1 ≤ N24.length ∧ N24.length ≤ 1024 by decide), (show 0 < N24.length by decide), (show 1 ≤ 1000 by decide)⟩
theorem goodA24 : GoodA (x24 1 0).A lb24 2 := fun j hj => by
  have hj0 : j = 0 := by
    have : (x24 1 0).A.length = 1 := rfl
    omega
  subst hj0
  exact ⟨1, 0, 1, rfl, by decide, by decide, rfl⟩
theorem first_ok (n : Nat) (s : Int) : ImgB n 0 (firstI n s) :=
  ⟨by simp [firstI], by simp [firstI], ⟨by simp [firstI], by simp [firstI]⟩, fun x hx => by
    have := List.eq_of_mem_replicate (show x ∈ List.replicate n ((0 : Int), ([] : List Int)) from hx)
    subst this; simp, fun x hx => by
    have := List.eq_of_mem_replicate (show x ∈ List.replicate n (0 : Int) from hx)
    subst this; simp⟩
theorem v39 : applyI (x24 1 0) lb24 (firstI 2 0) 0 = some ⟨1, 1, [(0, []), (1, [0])], [0, 0]⟩ := by rfl
set_option maxHeartbeats 16000000 in
theorem c_awake39 : Contract Try.prog 7 [] (bo true) [] := by
  refine contract_of_awp (rs := [0]) Try.func7 rfl Try.ntmps7 (by simp) rfl fun E => ?_
  have hF := c_PrFirst 2 0 2 (by decide) (by decide)
  have hAp := c_Apply2 false (x24 1 0) (wf24 1 0) lb24 goodA24 (firstI 2 0) ((first_ok 2 0).ok (by decide)) 0
  rw [v39] at hAp
  have k1 : ((1 : Int) == 1) = true := rfl
  have k2 : (((2 : Nat) : Int) == 2) = true := rfl
  have k3 : (((1 : Nat) : Int) == 1) = true := rfl
  have hl0 : (srs [(0, []), (1, [0])]).length = 2 := rfl
  have hg1 : (srs [(0, []), (1, [0])]).getD 1 [] = [i64 1, .sl false (ints [0])] := rfl
  have hl1 : (ints [0]).length = 1 := rfl
  (repeat (first | refine awp_seq ?_ | refine awp_block ?_ | ((first | refine awp_skip ?_ | refine awp_exit ?_ | refine awp_reg ttok ?_ | (refine awp_draw ttok ?dr_calm ?_; (case dr_calm => decide +kernel)) | refine awp_condM ?_); simp (maxSteps := 4000000) only [↓reduceIte, Nat.reduceLT, Nat.reduceEqDiff, reduceCtorEq, Nat.reduceAdd, Nat.reduceMul, Int.reduceLE, Int.reduceLT, Int.reduceToNat, Nat.reduceLeDiff, Nat.reduceSub, Int.reduceEq, Nat.reduceBEq, evB, tyA]; (repeat (with_reducible refine And.intro ?_ ?_; exact sdX)); (with_reducible first | refine awp_id ?_ | refine id_call ?_ | refine id_and ?_ | refine id_ex ?_ | refine id_all ?_ | refine id_nat ?_ | refine id_le ?_))))
  refine awp_drawS ttok (mkS 56 [(3, .ptr 4007 0 0), (4, bo true)] [(4007, { sz := 4, rows := [imC ⟨1, 1, [(0, []), (1, [0])], [0, 0]⟩], flat := false })]) (.nd 2 7 .lf (.nd 3 7 .lf .lf)) [((0, none) :: (1, none) :: (7, some [0, 1]) :: (2, some [0, 1]) :: (3, some []) :: (4, none) :: (5, none) :: (6, none) :: (8, some [6]) :: (9, none) :: []), ((0, none) :: (1, none) :: (2, some [0, 1]) :: (7, some [0, 1]) :: (3, some []) :: (4, none) :: (5, none) :: (6, none) :: (8, some [6]) :: (9, none) :: []), ((0, none) :: (1, none) :: (2, some [0, 1]) :: (3, some []) :: (4, none) :: (5, none) :: (6, none) :: (7, some [4, 5, 6]) :: (8, some [6]) :: (9, none) :: [])] [0, 1, 2, 3, 4, 5, 6, 7, 8, 9] [0, 1, 2, 3, 4, 5, 6, 7, 8, 9] [0, 1, 2, 3, 4, 5, 7, 8, 6, 9] (by decide +kernel) ?_ (fun O hO => ?_)
  rotate_left
  · simp only [OpsAre, Nat.reduceAdd, and_true] at hO
    simp only [aopsS_cons, aopsS_nil, and_true]
    repeat' apply And.intro
    all_goals
      simp (maxSteps := 4000000) only [↓reduceIte, Nat.reduceLT, Nat.reduceEqDiff, reduceCtorEq, Nat.reduceAdd, Nat.reduceMul, Int.reduceLE, Int.reduceLT, Int.reduceToNat, Nat.reduceLeDiff, Nat.reduceSub, Int.reduceEq, Nat.reduceBEq, evB, tyA, hO]; (repeat (with_reducible refine And.intro ?_ ?_; exact sdX))
      refine callVC_mk fnok8 hF rfl ?_
      simp (maxSteps := 4000000) only [↓reduceIte, Nat.reduceLT, Nat.reduceEqDiff, reduceCtorEq, Nat.reduceAdd, Nat.reduceMul, Int.reduceLE, Int.reduceLT, Int.reduceToNat, Nat.reduceLeDiff, Nat.reduceSub, Int.reduceEq, Nat.reduceBEq, evB, tyA, hO]
      (repeat (with_reducible refine And.intro ?_ ?_; exact sdX))
      refine callVC_mk fnok9 hAp rfl ?_
      simp (maxSteps := 4000000) only [↓reduceIte, Nat.reduceLT, Nat.reduceEqDiff, reduceCtorEq, Nat.reduceAdd, Nat.reduceMul, Int.reduceLE, Int.reduceLT, Int.reduceToNat, Nat.reduceLeDiff, Nat.reduceSub, Int.reduceEq, Nat.reduceBEq, evB, tyA, hO, apD]
      (repeat (with_reducible refine And.intro ?_ ?_; exact sdX))
      refine mkS_le rfl ?_ ?_
      · exact evX
      · exact evX
  (repeat (first | refine awp_seq ?_ | refine awp_block ?_ | ((first | refine awp_skip ?_ | refine awp_exit ?_ | refine awp_reg ttok ?_ | (refine awp_draw ttok ?dr_calm ?_; (case dr_calm => decide +kernel)) | refine awp_condM ?_); simp (maxSteps := 4000000) only [↓reduceIte, Nat.reduceLT, Nat.reduceEqDiff, reduceCtorEq, Nat.reduceAdd, Nat.reduceMul, Int.reduceLE, Int.reduceLT, Int.reduceToNat, Nat.reduceLeDiff, Nat.reduceSub, Int.reduceEq, Nat.reduceBEq, evB, tyA, k1, k2, k3, hl0, hg1, hl1]; (repeat (with_reducible refine And.intro ?_ ?_; exact sdX)); (with_reducible first | refine awp_id ?_ | refine id_call ?_ | refine id_and ?_ | refine id_ex ?_ | refine id_all ?_ | refine id_nat ?_ | refine id_le ?_))))
  exact awp_ret (ends_plain (.inr rfl) rfl evX)
set_option maxRecDepth 20000 in
set_option maxHeartbeats 32000000 in
theorem c_ProcApplies (f fs : Bool) (l : List (Int × Int × Int)) (z0 z1 z2 : Int) (s : List Int) (hl : l.length ≤ 9223372036854775807) (hs0 : s.length ≤ 9223372036854775807) :
    Contract Try.prog 3 [.sl f (tri l), .agg [i64 z0, i64 z1, i64 z2], .sl fs (ints s)] (bo true) [] := by
  refine contract_of_awp (rs := [6]) Try.func3 rfl Try.ntmps3 (by simp) rfl fun E => ?_
  have hAny := c_RAny f l (z0.fdiv (2 ^ min 4 IntKind.i64.bits)) z0 z1 hl
  obtain ⟨fin, hfin⟩ : ∃ fin, z0.fdiv (2 ^ min 4 IntKind.i64.bits) = fin := ⟨_, rfl⟩
  rw [hfin] at hAny
  have hL := labD_le z0
  rw [← labP_len] at hL
  have hgl := goodL_labP z0
  have hk := numD_le z1
  have hst := startD_lt z1
  have hok := nextD_ok (L := (labP z0).length) hk.1 l
  have hF := finD_len fin (numD z1)
  generalize nextD (labP z0).length (numD z1) l = N at *
  generalize labP z0 = lb at *
  generalize finD fin (numD z1) = F at *
  generalize numD z1 = k at *
  generalize startD z1 = st at *
  obtain ⟨C, hC, hCw0⟩ := and_low z2 255 (by decide)
  have hCw : IntKind.i64.wrap ((BitVec.ofInt IntKind.i64.bits z2 &&& BitVec.ofInt IntKind.i64.bits 255).toNat : Int) = (C : Int) := hCw0
  obtain ⟨pt, hpt, hptw⟩ : ∃ pt : Nat, pt < 3 ∧ (C : Int).tmod 3 = (pt : Int) := ⟨C % 3, Nat.mod_lt _ (by decide), by rw [Int.tmod_eq_emod_of_nonneg (by omega)]; omega⟩
  (repeat (first | refine awp_seq ?_ | refine awp_block ?_ | ((first | refine awp_skip ?_ | refine awp_exit ?_ | refine awp_reg ttok ?_ | (refine awp_draw ttok ?dr_calm ?_; (case dr_calm => decide +kernel)) | refine awp_condM ?_); simp (maxSteps := 4000000) only [↓reduceIte, Nat.reduceLT, Nat.reduceEqDiff, reduceCtorEq, Nat.reduceAdd, Nat.reduceMul, Int.reduceLE, Int.reduceLT, Int.reduceToNat, Nat.reduceLeDiff, Nat.reduceSub, Int.reduceEq, Nat.reduceBEq, evB, tyA, hfin]; (repeat (with_reducible refine And.intro ?_ ?_; exact sdX)); (with_reducible first | refine awp_id ?_ | refine id_call ?_ | refine id_and ?_ | refine id_ex ?_ | refine id_all ?_ | refine id_nat ?_ | refine id_le ?_))))
  refine callVC_mk fnok5 hAny rfl ?_
  simp (maxSteps := 4000000) only [↓reduceIte, Nat.reduceLT, Nat.reduceEqDiff, reduceCtorEq, Nat.reduceAdd, Nat.reduceMul, Int.reduceLE, Int.reduceLT, Int.reduceToNat, Nat.reduceLeDiff, Nat.reduceSub, Int.reduceEq, Nat.reduceBEq, evB, tyA, dfaD]
  (repeat (with_reducible refine And.intro ?_ ?_; exact sdX))
  (repeat (first | refine awp_seq ?_ | refine awp_block ?_ | ((first | refine awp_skip ?_ | refine awp_exit ?_ | refine awp_reg ttok ?_ | (refine awp_draw ttok ?dr_calm ?_; (case dr_calm => decide +kernel)) | refine awp_condM ?_); simp (maxSteps := 4000000) only [↓reduceIte, Nat.reduceLT, Nat.reduceEqDiff, reduceCtorEq, Nat.reduceAdd, Nat.reduceMul, Int.reduceLE, Int.reduceLT, Int.reduceToNat, Nat.reduceLeDiff, Nat.reduceSub, Int.reduceEq, Nat.reduceBEq, evB, tyA]; (repeat (with_reducible refine And.intro ?_ ?_; exact sdX)); (with_reducible first | refine awp_id ?_ | refine id_call ?_ | refine id_and ?_ | refine id_ex ?_ | refine id_all ?_ | refine id_nat ?_ | refine id_le ?_))))
  cases hv : (liveL F N).getD st false
  · rcases hide_says hok (by omega) (by omega) st hst F hF 0 with ⟨h0, _⟩ | ⟨_, hOf⟩
    · rw [hv] at h0; cases h0
    · refine callVC_mk fnok6 (c_PeersNo hok st F false (hOf false)) rfl ?_
      simp (maxSteps := 4000000) only [↓reduceIte, Nat.reduceLT, Nat.reduceEqDiff, reduceCtorEq, Nat.reduceAdd, Nat.reduceMul, Int.reduceLE, Int.reduceLT, Int.reduceToNat, Nat.reduceLeDiff, Nat.reduceSub, Int.reduceEq, Nat.reduceBEq, evB, tyA]
      (repeat (with_reducible refine And.intro ?_ ?_; exact sdX))
      (repeat (first | refine awp_seq ?_ | refine awp_block ?_ | ((first | refine awp_skip ?_ | refine awp_exit ?_ | refine awp_reg ttok ?_ | (refine awp_draw ttok ?dr_calm ?_; (case dr_calm => decide +kernel)) | refine awp_condM ?_); simp (maxSteps := 4000000) only [↓reduceIte, Nat.reduceLT, Nat.reduceEqDiff, reduceCtorEq, Nat.reduceAdd, Nat.reduceMul, Int.reduceLE, Int.reduceLT, Int.reduceToNat, Nat.reduceLeDiff, Nat.reduceSub, Int.reduceEq, Nat.reduceBEq, evB, tyA]; (repeat (with_reducible refine And.intro ?_ ?_; exact sdX)); (with_reducible first | refine awp_id ?_ | refine id_call ?_ | refine id_and ?_ | refine id_ex ?_ | refine id_all ?_ | refine id_nat ?_ | refine id_le ?_))))
      refine callVC_scal fnok7 c_awake39 rfl ?_
      simp (maxSteps := 4000000) only [↓reduceIte, Nat.reduceLT, Nat.reduceEqDiff, reduceCtorEq, Nat.reduceAdd, Nat.reduceMul, Int.reduceLE, Int.reduceLT, Int.reduceToNat, Nat.reduceLeDiff, Nat.reduceSub, Int.reduceEq, Nat.reduceBEq, evB, tyA]
      (repeat (with_reducible refine And.intro ?_ ?_; exact sdX))
      (repeat (first | refine awp_seq ?_ | refine awp_block ?_ | ((first | refine awp_skip ?_ | refine awp_exit ?_ | refine awp_reg ttok ?_ | (refine awp_draw ttok ?dr_calm ?_; (case dr_calm => decide +kernel)) | refine awp_condM ?_); simp (maxSteps := 4000000) only [↓reduceIte, Nat.reduceLT, Nat.reduceEqDiff, reduceCtorEq, Nat.reduceAdd, Nat.reduceMul, Int.reduceLE, Int.reduceLT, Int.reduceToNat, Nat.reduceLeDiff, Nat.reduceSub, Int.reduceEq, Nat.reduceBEq, evB, tyA]; (repeat (with_reducible refine And.intro ?_ ?_; exact sdX)); (with_reducible first | refine awp_id ?_ | refine id_call ?_ | refine id_and ?_ | refine id_ex ?_ | refine id_all ?_ | refine id_nat ?_ | refine id_le ?_))))
      exact awp_ret (ends_plain (.inr rfl) rfl evX)
  obtain ⟨g, hg⟩ := peers_pick hok (by omega) (by omega) st hst F hF hv
  have hP := c_Peers hok st F false hg
  refine callVC_mk fnok6 hP rfl ?_
  simp (maxSteps := 4000000) only [↓reduceIte, Nat.reduceLT, Nat.reduceEqDiff, reduceCtorEq, Nat.reduceAdd, Nat.reduceMul, Int.reduceLE, Int.reduceLT, Int.reduceToNat, Nat.reduceLeDiff, Nat.reduceSub, Int.reduceEq, Nat.reduceBEq, evB, tyA]
  (repeat (with_reducible refine And.intro ?_ ?_; exact sdX))
  have hgp := prs_get (g := g) hpt
  have hx := hg (pt : Int)
  have hl3 : (prs (firstP g 3)).length = 3 := by rw [prs_len, firstP_len]
  generalize g (pt : Int) = x at *
  generalize prs (firstP g 3) = PP at *
  have hw := hx.wf
  have hAl : x.A.length ≤ 4 := by rw [hx.A]; exact Nat.le_trans (acts_len _ _ _) hL
  have hA := goodA_acts hgl (pt : Int) lb.length (Nat.le_refl _)
  rw [← hx.A] at hA
  have hFi := c_PrFirst 3 (x.st : Int) 3 (by decide) (by decide)
  have hn0 := Noted.nil x lb (firstI 3 x.st) (first_ok 3 x.st)
  have hb0 := first_ok 3 (x.st : Int)
  have hkp0 : Kept (firstI 3 x.st) [[], [], []] [0, 0, 0] := ⟨rfl, rfl, rfl, rfl⟩
  have hnd := acts_nodup lb (pt : Int) lb.length
  rw [← hx.A] at hnd
  have hdr := acts_dir lb (pt : Int) lb.length
  rw [← hx.A] at hdr
  have hxL := hx.L
  have hxn := hw.n
  have hxs := hw.s
  have hq0 : (firstI 3 (x.st : Int)).q = 0 := rfl
  have hs00 : (firstI 3 (x.st : Int)).s = (x.st : Int) := rfl
  have hl0 : (srs (firstI 3 (x.st : Int)).S).length = 3 := rfl
  have hl1 : (ints (firstI 3 (x.st : Int)).K).length = 3 := rfl
  generalize firstI 3 (x.st : Int) = fi at *
  have k1 : (fi.q != 0) = false := by rw [hq0]; rfl
  have k2 : (fi.s != (x.st : Int)) = false := by rw [hs00]; simp
  have k3 : (((3 : Nat) : Int) != 3) = false := rfl
  have kx : ∀ v : Int, (v != v) = false := fun v => by simp
  have ky : ∀ b : Bool, (b != b) = false := by decide
  (repeat (first | refine awp_seq ?_ | refine awp_block ?_ | ((first | refine awp_skip ?_ | refine awp_exit ?_ | refine awp_reg ttok ?_ | (refine awp_draw ttok ?dr_calm ?_; (case dr_calm => decide +kernel)) | refine awp_condM ?_); simp (maxSteps := 4000000) only [↓reduceIte, Nat.reduceLT, Nat.reduceEqDiff, reduceCtorEq, Nat.reduceAdd, Nat.reduceMul, Int.reduceLE, Int.reduceLT, Int.reduceToNat, Nat.reduceLeDiff, Nat.reduceSub, Int.reduceEq, Nat.reduceBEq, evB, tyA, hCw, hptw, hgp, hl3]; (repeat (with_reducible refine And.intro ?_ ?_; exact sdX)); (with_reducible first | refine awp_id ?_ | refine id_call ?_ | refine id_and ?_ | refine id_ex ?_ | refine id_all ?_ | refine id_nat ?_ | refine id_le ?_))))
  refine callVC_mk fnok8 hFi rfl ?_
  simp (maxSteps := 4000000) only [↓reduceIte, Nat.reduceLT, Nat.reduceEqDiff, reduceCtorEq, Nat.reduceAdd, Nat.reduceMul, Int.reduceLE, Int.reduceLT, Int.reduceToNat, Nat.reduceLeDiff, Nat.reduceSub, Int.reduceEq, Nat.reduceBEq, evB, tyA]
  (repeat (with_reducible refine And.intro ?_ ?_; exact sdX))
  (repeat (first | refine awp_seq ?_ | refine awp_block ?_ | ((first | refine awp_skip ?_ | refine awp_exit ?_ | refine awp_reg ttok ?_ | (refine awp_draw ttok ?dr_calm ?_; (case dr_calm => decide +kernel)) | refine awp_condM ?_); simp (maxSteps := 4000000) only [↓reduceIte, Nat.reduceLT, Nat.reduceEqDiff, reduceCtorEq, Nat.reduceAdd, Nat.reduceMul, Int.reduceLE, Int.reduceLT, Int.reduceToNat, Nat.reduceLeDiff, Nat.reduceSub, Int.reduceEq, Nat.reduceBEq, evB, tyA, hl0, hl1, k1, k2, k3]; (repeat (with_reducible refine And.intro ?_ ?_; exact sdX)); (with_reducible first | refine awp_id ?_ | refine id_call ?_ | refine id_and ?_ | refine id_ex ?_ | refine id_all ?_ | refine id_nat ?_ | refine id_le ?_))))
  refine awp_looseO 10003 ?_
  refine awp_at 304 [(2, .sl fs (ints s)), (8, .sl false (tri lb)), (11, .ptr 6007 0 0), (12, .ptr 7004 0 0), (13, .ptr 10003 0 0), (14, .ptr 10004 0 0), (15, .own 10002 0 ([] : List Lab).length), (16, i64 0)] [(6007, { sz := 6, rows := [prC x], flat := false }), (7004, { sz := 4, rows := [imC fi], flat := false }), (10003, { sz := 3, rows := [srow [[], [], []]], flat := false }), (10004, { sz := 3, rows := [arow [0, 0, 0]], flat := false }), (10002, { sz := 3, rows := [] })] rfl ⟨rfl, rfl, rfl, rfl, rfl, rfl, rfl, rfl, trivial⟩ ⟨rfl, rfl, rfl, rfl, rfl, trivial⟩ ?_
  refine awp_pureO 10003 (rows := [srow [[], [], []]]) (by simp (maxSteps := 4000000) only [↓reduceIte, Nat.reduceLT, Nat.reduceEqDiff, reduceCtorEq, Nat.reduceAdd, Nat.reduceMul, Int.reduceLE, Int.reduceLT, Int.reduceToNat, Nat.reduceLeDiff, Nat.reduceSub, Int.reduceEq, Nat.reduceBEq, evB]; rfl) rfl (by simp (maxSteps := 4000000) only [↓reduceIte, Nat.reduceLT, Nat.reduceEqDiff, reduceCtorEq, Nat.reduceAdd, Nat.reduceMul, Int.reduceLE, Int.reduceLT, Int.reduceToNat, Nat.reduceLeDiff, Nat.reduceSub, Int.reduceEq, Nat.reduceBEq, evB, srow, List.map_cons, List.map_nil]; rfl) (by simp (maxSteps := 4000000) only [↓reduceIte, Nat.reduceLT, Nat.reduceEqDiff, reduceCtorEq, Nat.reduceAdd, Nat.reduceMul, Int.reduceLE, Int.reduceLT, Int.reduceToNat, Nat.reduceLeDiff, Nat.reduceSub, Int.reduceEq, Nat.reduceBEq, evB, ints, List.map_nil, List.length_nil]) (by decide) ?_
  refine awp_pureO 10004 (rows := [arow [0, 0, 0]]) (by simp (maxSteps := 4000000) only [↓reduceIte, Nat.reduceLT, Nat.reduceEqDiff, reduceCtorEq, Nat.reduceAdd, Nat.reduceMul, Int.reduceLE, Int.reduceLT, Int.reduceToNat, Nat.reduceLeDiff, Nat.reduceSub, Int.reduceEq, Nat.reduceBEq, evB]; rfl) rfl (by simp (maxSteps := 4000000) only [↓reduceIte, Nat.reduceLT, Nat.reduceEqDiff, reduceCtorEq, Nat.reduceAdd, Nat.reduceMul, Int.reduceLE, Int.reduceLT, Int.reduceToNat, Nat.reduceLeDiff, Nat.reduceSub, Int.reduceEq, Nat.reduceBEq, evB, arow, List.map_cons, List.map_nil]; rfl) (by decide) (by decide) ?_
  refine awp_at 304 [(2, _), (8, _), (11, _), (12, _), (13, _), (14, _), (15, _), (16, _)] [(6007, _), (7004, _), (10003, _), (10004, _), (10002, _)] rfl (by (first | simp (maxSteps := 4000000) only [↓reduceIte, Nat.reduceLT, Nat.reduceEqDiff, reduceCtorEq, Nat.reduceAdd, Nat.reduceMul, Int.reduceLE, Int.reduceLT, Int.reduceToNat, Nat.reduceLeDiff, Nat.reduceSub, Int.reduceEq, Nat.reduceBEq, evB] | skip); exact ⟨rfl, rfl, rfl, rfl, rfl, rfl, rfl, rfl⟩) (by (first | simp (maxSteps := 4000000) only [↓reduceIte, Nat.reduceLT, Nat.reduceEqDiff, reduceCtorEq, Nat.reduceAdd, Nat.reduceMul, Int.reduceLE, Int.reduceLT, Int.reduceToNat, Nat.reduceLeDiff, Nat.reduceSub, Int.reduceEq, Nat.reduceBEq, evB] | skip); exact ⟨rfl, rfl, rfl, rfl, rfl⟩) ?_
  refine awp_joinX (X := Img × List (Int × Int × Int)) 0 (fun q => mkS 304 [(8, .sl false (tri lb)), (11, .ptr 6007 0 0), (12, .ptr 7004 0 0), (15, .own 10002 0 q.2.length)] [(6007, { sz := 6, rows := [prC x], flat := false }), (7004, { sz := 4, rows := [imC q.1], flat := false }), (10002, { sz := 3, rows := tri q.2 })]) (fun q => Noted x lb fi q.2 q.1 ∧ q.2.length ≤ 30) ?_ ?_
  rotate_left
  · refine awp_loop (X := Nat × Img × List (List Int) × List Int × List (Int × Int × Int)) (fun q => mkS 304 [(2, .sl fs (ints s)), (8, .sl false (tri lb)), (11, .ptr 6007 0 0), (12, .ptr 7004 0 0), (13, .ptr 10003 0 0), (14, .ptr 10004 0 0), (15, .own 10002 0 q.2.2.2.2.length), (16, i64 q.1)] [(6007, { sz := 6, rows := [prC x], flat := false }), (7004, { sz := 4, rows := [imC q.2.1], flat := false }), (10003, { sz := 3, rows := [srow q.2.2.1] }), (10004, { sz := 3, rows := [arow q.2.2.2.1] }), (10002, { sz := 3, rows := tri q.2.2.2.2 })])
      (fun q => q.1 ≤ 30 ∧ q.1 ≤ s.length ∧ q.2.2.2.2.length ≤ q.1 ∧ Noted x lb fi q.2.2.2.2 q.2.1 ∧ Kept q.2.1 q.2.2.1 q.2.2.2.1 ∧ (∃ ns : Nat, q.2.1.s = (ns : Int) ∧ ns < x.N.length)) (fun q => 30 - q.1) (0, fi, [[], [], []], [0, 0, 0], []) ⟨Nat.zero_le _, Nat.zero_le _, Nat.le_refl _, hn0, hkp0, x.st, hs00, hxs⟩ (mkS_le rfl ?_ ?_) ?_
    · simp (maxSteps := 4000000) only [↓reduceIte, Nat.reduceLT, Nat.reduceEqDiff, reduceCtorEq, Nat.reduceAdd, Nat.reduceMul, Int.reduceLE, Int.reduceLT, Int.reduceToNat, Nat.reduceLeDiff, Nat.reduceSub, Int.reduceEq, Nat.reduceBEq, evB]
      try rfl
    · simp (maxSteps := 4000000) only [↓reduceIte, Nat.reduceLT, Nat.reduceEqDiff, reduceCtorEq, Nat.reduceAdd, Nat.reduceMul, Int.reduceLE, Int.reduceLT, Int.reduceToNat, Nat.reduceLeDiff, Nat.reduceSub, Int.reduceEq, Nat.reduceBEq, evB]
      try rfl
    · rintro ⟨j, y, hs, ts, nt⟩ ⟨hj, hjs, hnl, hn, hkp, ns, hys, hns⟩
      simp only at hj hjs hnl hn hkp hys hns
      have hyB := hn.b
      have hyq := hn.q
      have hlh0 := hkp.lh
      have hlt0 := hkp.lt
      have hhl0 : ∀ i, i < 3 → (hs.getD i []).length ≤ 30 := fun i hi => by
        have hm : (((hs.getD i []).length : Int), last8 (hs.getD i [])) ∈ y.S := by
          rw [hkp.S, ← sms_get (by omega)]
          exact getD_mem (by rw [sms_len]; omega) _
        have := (hyB.c _ hm).2.1
        simp only at this
        omega
      have htl0 : ∀ i, i < 3 → 0 ≤ ts.getD i 0 ∧ ts.getD i 0 ≤ 30 := fun i hi => by
        have hm : ts.getD i 0 ∈ y.K := by
          rw [hkp.K]; exact getD_mem (by omega) _
        have := hyB.k _ hm
        omega
      by_cases hlt : j < s.length ∧ j < 30
      · have d1 : decide ((j : Int) < (s.length : Int)) = true := by simp; omega
        have d2 : decide ((j : Int) < 30) = true := by simp; omega
        have hwi : IntKind.i64.wrap ((j : Int) + 1) = ((j + 1 : Nat) : Int) := i64_in (by omega) (by omega)
        have gs := ints_get hlt.1
        obtain ⟨a7, ha7, haw0⟩ := and_low (s.getD j 0) 7 (by decide)
        have haw : IntKind.i64.wrap ((BitVec.ofInt IntKind.i64.bits (s.getD j 0) &&& BitVec.ofInt IntKind.i64.bits 7).toNat : Int) = (a7 : Int) := haw0
        obtain ⟨a, ha⟩ : ∃ a : Int, a = (a7 : Int) - 1 := ⟨_, rfl⟩
        have haw1 : IntKind.i64.wrap ((a7 : Int) - 1) = a := by rw [ha]; exact i64_in (by omega) (by omega)
        generalize s.getD j 0 = sj at *
        have hAp := c_Apply3 false x hw lb hA y (hyB.ok (by omega)) a
        have hsn := fun y' => hn.snoc hw (a := a) (y := y')
        have hap := fun y' => applied hw (lb := lb) (i := y) (a := a) (y := y')
        have hSm := c_rSame false false false false y.q y.s y.S y.K y.q y.s y.S y.K (by rw [hyB.S]; decide) (by rw [hyB.K]; decide) (fun z hz => by have := (hyB.c z hz).2.2; omega)
        rw [sameI_refl] at hSm
        have hwl : IntKind.i64.wrap ((x.A.length : Int) - 1) = (x.A.length : Int) - 1 := i64_in (by omega) (by omega)
        by_cases hc : 0 ≤ a ∧ a < (x.A.length : Int) ∧ 0 ≤ (x.N.getD ns []).getD a.toNat 0
        · obtain ⟨an, rfl⟩ := Int.eq_ofNat_of_zero_le hc.1
          rw [Int.toNat_natCast] at hc
          have han : an < x.A.length := by omega
          have hyes := apply_can hw hnd (lb := lb) (y := y) han hxL hys hns
          rw [if_pos hc.2.2] at hyes
          obtain ⟨d, kk, o, e1A, hkl, ho, e2A⟩ := hA an han
          have hdd := hdr _ (getD_mem han (0, 0))
          have hcl := cell_lt hw (a := an) (by omega) hns
          have gA := duo_get han
          rw [e1A] at hyes hdd gA
          simp only at hdd gA
          have hot : otherN lb (d, (kk : Int)) = o := by unfold otherN; simp only [Int.toNat_natCast]; rw [e2A]; simp
          rw [hyes] at hAp
          have hn2 := hsn _ hyes
          obtain ⟨hq2, hsb1, hsb2⟩ := hap _ hyes
          have gN := iis_get (l := x.N) (i := ns) hns
          have hrl := (hw.ok.get (s := ns) (by have := hw.ok.len; omega)).1
          have gR := ints_get (l := x.N.getD ns []) (i := an) (by omega)
          have hys2 : (didI lb y (d, (kk : Int)) ((x.N.getD ns []).getD an 0)).s = (x.N.getD ns []).getD an 0 := by unfold didI; split <;> rfl
          have gk := tri_get hkl
          have hlh := hkp.lh
          have hlt3 := hkp.lt
          obtain ⟨hs', ts', hkp', hcase⟩ : ∃ hs' ts', Kept (didI lb y (d, (kk : Int)) ((x.N.getD ns []).getD an 0)) hs' ts' ∧ ((d = 1 ∧ hs' = hs.set o (hs.getD o [] ++ [(kk : Int)]) ∧ ts' = ts) ∨ (d = 2 ∧ hs' = hs ∧ ts' = ts.set o (ts.getD o 0 + 1))) := by
            rcases hdd with rfl | rfl
            · exact ⟨_, _, hkp.send lb _ ho hot, .inl ⟨rfl, rfl, rfl⟩⟩
            · exact ⟨_, _, hkp.take lb _ hot, .inr ⟨rfl, rfl, rfl⟩⟩
          generalize didI lb y (d, (kk : Int)) ((x.N.getD ns []).getD an 0) = y' at *
          generalize x.N.getD ns [] = row at *
          have hm1 : (if (x.A.length : Int) - 1 < (an : Int) then (x.A.length : Int) - 1 else (an : Int)) = (an : Int) := by rw [if_neg (by omega)]
          have hm2 : (if 0 > (an : Int) then 0 else (an : Int)) = (an : Int) := by rw [if_neg (by omega)]
          have e1 : decide ((an : Int) ≥ 0) = true := by simp
          have e2 : decide ((an : Int) < (x.A.length : Int)) = true := by simpa using han
          have e3 : decide (row.getD an 0 ≥ 0) = true := by simp only [ge_iff_le, decide_eq_true_eq]; exact hc.2.2
          have kn : (true != true) = false := rfl
          generalize row.getD an 0 = rv at *
          obtain ⟨lb1, lb2, lb3, hlb⟩ : ∃ lb1 lb2 lb3, lb.getD kk (0, 0, 0) = (lb1, lb2, lb3) := ⟨_, _, _, rfl⟩
          rw [hlb] at gk e2A
          simp only at gk e2A
          (repeat (first | refine awp_seq ?_ | refine awp_block ?_ | ((first | refine awp_skip ?_ | refine awp_exit ?_ | refine awp_reg ttok ?_ | (refine awp_draw ttok ?dr_calm ?_; (case dr_calm => decide +kernel)) | refine awp_condM ?_); simp (maxSteps := 4000000) only [↓reduceIte, Nat.reduceLT, Nat.reduceEqDiff, reduceCtorEq, Nat.reduceAdd, Nat.reduceMul, Int.reduceLE, Int.reduceLT, Int.reduceToNat, Nat.reduceLeDiff, Nat.reduceSub, Int.reduceEq, Nat.reduceBEq, evB, tyA, d1, d2, ints_len, gs, haw, haw1]; (repeat (with_reducible refine And.intro ?_ ?_; exact sdX)); (with_reducible first | refine awp_id ?_ | refine id_call ?_ | refine id_and ?_ | refine id_ex ?_ | refine id_all ?_ | refine id_nat ?_ | refine id_le ?_))))
          refine callVC_mk fnok9 hAp rfl ?_
          simp (maxSteps := 4000000) only [↓reduceIte, Nat.reduceLT, Nat.reduceEqDiff, reduceCtorEq, Nat.reduceAdd, Nat.reduceMul, Int.reduceLE, Int.reduceLT, Int.reduceToNat, Nat.reduceLeDiff, Nat.reduceSub, Int.reduceEq, Nat.reduceBEq, evB, tyA, apD]
          (repeat (with_reducible refine And.intro ?_ ?_; exact sdX))
          (repeat (first | refine awp_seq ?_ | refine awp_block ?_ | ((first | refine awp_skip ?_ | refine awp_exit ?_ | refine awp_reg ttok ?_ | (refine awp_draw ttok ?dr_calm ?_; (case dr_calm => decide +kernel)) | refine awp_condM ?_); simp (maxSteps := 4000000) only [↓reduceIte, Nat.reduceLT, Nat.reduceEqDiff, reduceCtorEq, Nat.reduceAdd, Nat.reduceMul, Int.reduceLE, Int.reduceLT, Int.reduceToNat, Nat.reduceLeDiff, Nat.reduceSub, Int.reduceEq, Nat.reduceBEq, evB, tyA, e1, e2, e3, duo_len, kn, hwl, hm1, hm2, hys, gN, gR, iis_len, ints_len, gA]; (repeat (with_reducible refine And.intro ?_ ?_; exact sdX)); (with_reducible first | refine awp_id ?_ | refine id_call ?_ | refine id_and ?_ | refine id_ex ?_ | refine id_all ?_ | refine id_nat ?_ | refine id_le ?_))))
          refine awp_join (mkS 304 [(2, .sl fs (ints s)), (8, .sl false (tri lb)), (11, .ptr 6007 0 0), (12, .ptr 7004 0 0), (13, .ptr 10003 0 0), (14, .ptr 10004 0 0), (15, .own 10002 0 nt.length), (16, i64 j), (17, i64 an), (18, .ptr 15008 0 0)] [(6007, { sz := 6, rows := [prC x], flat := false }), (7004, { sz := 4, rows := [imC y], flat := false }), (10003, { sz := 3, rows := [srow hs'] }), (10004, { sz := 3, rows := [arow ts'] }), (10002, { sz := 3, rows := tri nt }), (15008, { sz := 4, rows := [imC y'], flat := false })]) ?_ ?_
          rotate_left
          · rcases hcase with ⟨rfl, rfl, rfl⟩ | ⟨rfl, rfl, rfl⟩
            · have hd1 : ((1 : Int) == 1) = true := rfl
              rw [if_pos rfl] at e2A
              subst e2A
              have gh := srow_get (hs := hs) (k := o) (by omega)
              have hhl := hhl0 o ho
              have ghs := fun m => srow_set (hs := hs) (k := o) (by omega) m
              generalize hs.getD o [] = h at *
              have hone : [[i64 (kk : Int)]] = ints [(kk : Int)] := rfl
              have hz0 : ([] : List (List D)) = ints [] := rfl
              have hht : List.take h.length h = h := List.take_length
              have hhk : (h ++ [(kk : Int)]).length = h.length + 1 := by simp
              have hhkt : List.take (h.length + 1) (h ++ [(kk : Int)]) = h ++ [(kk : Int)] := List.take_of_length_le (by omega)
              have hr1 : ∀ m : List Int, (∀ row ∈ ints m, row.length = 1) = True := fun m => by simp [ints]
              
              (repeat (first | refine awp_seq ?_ | refine awp_block ?_ | ((first | refine awp_skip ?_ | refine awp_exit ?_ | refine awp_reg ttok ?_ | (refine awp_draw ttok ?dr_calm ?_; (case dr_calm => decide +kernel)) | refine awp_condM ?_); simp (maxSteps := 4000000) only [↓reduceIte, Nat.reduceLT, Nat.reduceEqDiff, reduceCtorEq, Nat.reduceAdd, Nat.reduceMul, Int.reduceLE, Int.reduceLT, Int.reduceToNat, Nat.reduceLeDiff, Nat.reduceSub, Int.reduceEq, Nat.reduceBEq, evB, tyA, hd1]; (repeat (with_reducible refine And.intro ?_ ?_; exact sdX)); (with_reducible first | refine awp_id ?_ | refine id_call ?_ | refine id_and ?_ | refine id_ex ?_ | refine id_all ?_ | refine id_nat ?_ | refine id_le ?_))))
              refine awp_drawS ttok (mkS 304 [(2, .sl fs (ints s)), (8, .sl false (tri lb)), (11, .ptr 6007 0 0), (12, .ptr 7004 0 0), (13, .ptr 10003 0 0), (14, .ptr 10004 0 0), (15, .own 10002 0 nt.length), (16, i64 j), (17, i64 an), (18, .ptr 15008 0 0)] [(6007, { sz := 6, rows := [prC x], flat := false }), (7004, { sz := 4, rows := [imC y], flat := false }), (10003, { sz := 3, rows := [srow (hs.set o (h ++ [(kk : Int)]))] }), (10004, { sz := 3, rows := [arow ts'] }), (10002, { sz := 3, rows := tri nt }), (15008, { sz := 4, rows := [imC y'], flat := false })]) (.nd 6 18 .lf (.nd 15 18 .lf .lf)) [((0, none) :: (1, none) :: (2, none) :: (3, none) :: (4, none) :: (5, none) :: (7, none) :: (8, none) :: (9, none) :: (10, none) :: (11, none) :: (12, none) :: (13, none) :: (14, none) :: (16, none) :: (17, none) :: (18, some [0, 1, 2, 3, 4, 5, 7, 8, 9, 10, 11, 12, 13, 14]) :: (6, some [0, 1, 2, 3, 4, 5, 7, 8, 9, 10, 11, 12, 13, 14]) :: (15, some [0, 1, 2, 3, 4, 5]) :: (19, some [0, 1, 2, 3, 4, 5]) :: (20, none) :: (21, some []) :: []), ((0, none) :: (1, none) :: (2, none) :: (3, none) :: (4, none) :: (5, none) :: (7, none) :: (8, none) :: (9, none) :: (10, none) :: (11, none) :: (12, none) :: (13, none) :: (14, none) :: (16, none) :: (17, none) :: (6, some [0, 1, 2, 3, 4, 5, 7, 8, 9, 10, 11, 12, 13, 14, 16, 17]) :: (18, some [0, 1, 2, 3, 4, 5, 7, 8, 9, 10, 11, 12, 13, 14]) :: (15, some [0, 1, 2, 3, 4, 5]) :: (19, some [0, 1, 2, 3, 4, 5]) :: (20, none) :: (21, some []) :: []), ((0, none) :: (1, none) :: (2, none) :: (3, none) :: (4, none) :: (5, none) :: (7, none) :: (8, none) :: (9, none) :: (10, none) :: (11, none) :: (12, none) :: (13, none) :: (14, none) :: (16, none) :: (17, none) :: (6, some [0, 1, 2, 3, 4, 5, 7, 8, 9, 10, 11, 12, 13, 14, 16, 17]) :: (15, some [0, 1, 2, 3, 4, 5, 16, 17]) :: (18, some [0, 1, 2, 3, 4, 5]) :: (19, some [0, 1, 2, 3, 4, 5]) :: (20, none) :: (21, some []) :: [])] [0, 1, 2, 3, 4, 5, 7, 8, 9, 10, 11, 12, 13, 14, 16, 17, 6, 15, 18, 19, 20, 21] [] [] (by decide +kernel) ?_ (fun O hO => ?_)
              rotate_left
              · simp only [OpsAre, Nat.reduceAdd, and_true] at hO
                simp only [aopsS_cons, aopsS_nil, and_true]
                repeat' apply And.intro
                all_goals
                  simp (maxSteps := 4000000) only [↓reduceIte, Nat.reduceLT, Nat.reduceEqDiff, reduceCtorEq, Nat.reduceAdd, Nat.reduceMul, Int.reduceLE, Int.reduceLT, Int.reduceToNat, Nat.reduceLeDiff, Nat.reduceSub, Int.reduceEq, Nat.reduceBEq, evB, tyA, hO, gk, tri_len, gh, srow_len, ints_len, ints_take, ints_app, hone, hht, hhk, hhkt, hr1, List.nil_append, ghs, List.length_nil, Nat.zero_add]; (repeat (with_reducible refine And.intro ?_ ?_; exact sdX))
                  refine mkS_le rfl ?_ ?_
                  · exact evX
                  · exact evX
              (repeat (first | refine awp_seq ?_ | refine awp_block ?_ | ((first | refine awp_skip ?_ | refine awp_exit ?_ | refine awp_reg ttok ?_ | (refine awp_draw ttok ?dr_calm ?_; (case dr_calm => decide +kernel)) | refine awp_condM ?_); simp (maxSteps := 4000000) only [↓reduceIte, Nat.reduceLT, Nat.reduceEqDiff, reduceCtorEq, Nat.reduceAdd, Nat.reduceMul, Int.reduceLE, Int.reduceLT, Int.reduceToNat, Nat.reduceLeDiff, Nat.reduceSub, Int.reduceEq, Nat.reduceBEq, evB, tyA, joinA]; (repeat (with_reducible refine And.intro ?_ ?_; exact sdX)); (with_reducible first | refine awp_id ?_ | refine id_call ?_ | refine id_and ?_ | refine id_ex ?_ | refine id_all ?_ | refine id_nat ?_ | refine id_le ?_))))
              refine mkS_le rfl ?_ ?_
              · exact evX
              · exact evX
            · have hd1 : ((2 : Int) == 1) = false := rfl
              rw [if_neg (by decide)] at e2A
              subst e2A
              have gt := arow_get (p := ts) (k := o) (by omega)
              have htl := htl0 o ho
              have gts := fun v => arow_set (p := ts) (k := o) (by omega) v
              generalize ts.getD o 0 = tv at *
              have hwt : IntKind.i64.wrap (tv + 1) = tv + 1 := i64_in (by omega) (by omega)
              (repeat (first | refine awp_seq ?_ | refine awp_block ?_ | ((first | refine awp_skip ?_ | refine awp_exit ?_ | refine awp_reg ttok ?_ | (refine awp_draw ttok ?dr_calm ?_; (case dr_calm => decide +kernel)) | refine awp_condM ?_); simp (maxSteps := 4000000) only [↓reduceIte, Nat.reduceLT, Nat.reduceEqDiff, reduceCtorEq, Nat.reduceAdd, Nat.reduceMul, Int.reduceLE, Int.reduceLT, Int.reduceToNat, Nat.reduceLeDiff, Nat.reduceSub, Int.reduceEq, Nat.reduceBEq, evB, tyA, hd1, gk, tri_len, gt, gts, arow_len, hwt, joinA]; (repeat (with_reducible refine And.intro ?_ ?_; exact sdX)); (with_reducible first | refine awp_id ?_ | refine id_call ?_ | refine id_and ?_ | refine id_ex ?_ | refine id_all ?_ | refine id_nat ?_ | refine id_le ?_))))
              refine mkS_le rfl ?_ ?_
              · exact evX
              · exact evX
          clear hcase
          have hyB' := hn2.b
          have hSl' : (srs y'.S).length = 3 := by rw [srs_len]; exact hyB'.S
          have hKl' : (ints y'.K).length = 3 := by rw [ints_len]; exact hyB'.K
          have hlh' := hkp'.lh
          have hlt' := hkp'.lt
          rw [List.length_append, List.length_singleton] at hyB'
          have hhl' : ∀ i, i < 3 → (hs'.getD i []).length ≤ 31 := fun i hi => by
            have hm : (((hs'.getD i []).length : Int), last8 (hs'.getD i [])) ∈ y'.S := by
              rw [hkp'.S, ← sms_get (by omega)]
              exact getD_mem (by rw [sms_len]; omega) _
            have := (hyB'.c _ hm).2.1
            simp only at this
            omega
          have hqw : IntKind.i64.wrap (y.q + 1) = y'.q := by rw [hq2]; exact i64_in (by omega) (by omega)
          have kq : (y'.q != y'.q) = false := by simp
          have ks : (y'.s != rv) = false := by rw [hys2]; simp
          have k3 : (((3 : Nat) : Int) != 3) = false := rfl
          (repeat (first | refine awp_seq ?_ | refine awp_block ?_ | ((first | refine awp_skip ?_ | refine awp_exit ?_ | refine awp_reg ttok ?_ | (refine awp_draw ttok ?dr_calm ?_; (case dr_calm => decide +kernel)) | refine awp_condM ?_); simp (maxSteps := 4000000) only [↓reduceIte, Nat.reduceLT, Nat.reduceEqDiff, reduceCtorEq, Nat.reduceAdd, Nat.reduceMul, Int.reduceLE, Int.reduceLT, Int.reduceToNat, Nat.reduceLeDiff, Nat.reduceSub, Int.reduceEq, Nat.reduceBEq, evB, tyA, hqw, kq, ks, k3, hSl', hKl', hys, gN, gR, iis_len, ints_len]; (repeat (with_reducible refine And.intro ?_ ?_; exact sdX)); (with_reducible first | refine awp_id ?_ | refine id_call ?_ | refine id_and ?_ | refine id_ex ?_ | refine id_all ?_ | refine id_nat ?_ | refine id_le ?_))))
          refine awp_loop (X := Nat) (fun i => mkS 304 [(2, .sl fs (ints s)), (8, .sl false (tri lb)), (11, .ptr 6007 0 0), (12, .ptr 7004 0 0), (13, .ptr 10003 0 0), (14, .ptr 10004 0 0), (15, .own 10002 0 nt.length), (16, i64 j), (17, i64 an), (18, .ptr 15008 0 0), (22, i64 i)] [(6007, { sz := 6, rows := [prC x], flat := false }), (7004, { sz := 4, rows := [imC y], flat := false }), (10003, { sz := 3, rows := [srow hs'] }), (10004, { sz := 3, rows := [arow ts'] }), (10002, { sz := 3, rows := tri nt }), (15008, { sz := 4, rows := [imC y'], flat := false })]) (fun i => i ≤ 3) (fun i => 3 - i) 0 (Nat.zero_le _) (mkS_le rfl ?_ ?_) ?_
          · simp (maxSteps := 4000000) only [↓reduceIte, Nat.reduceLT, Nat.reduceEqDiff, reduceCtorEq, Nat.reduceAdd, Nat.reduceMul, Int.reduceLE, Int.reduceLT, Int.reduceToNat, Nat.reduceLeDiff, Nat.reduceSub, Int.reduceEq, Nat.reduceBEq, evB]
            try rfl
          · simp (maxSteps := 4000000) only [↓reduceIte, Nat.reduceLT, Nat.reduceEqDiff, reduceCtorEq, Nat.reduceAdd, Nat.reduceMul, Int.reduceLE, Int.reduceLT, Int.reduceToNat, Nat.reduceLeDiff, Nat.reduceSub, Int.reduceEq, Nat.reduceBEq, evB, hys]
            try rfl
          · intro i hi
            by_cases hi3 : i < 3
            · have f1 : decide ((i : Int) < 3) = true := by simp; omega
              have hwi2 : IntKind.i64.wrap ((i : Int) + 1) = ((i + 1 : Nat) : Int) := i64_in (by omega) (by omega)
              have gS := srs_get (l := y'.S) (i := i) (by rw [hyB'.S]; exact hi3)
              have gS2 : y'.S.getD i (0, []) = (((hs'.getD i []).length : Int), last8 (hs'.getD i [])) := by rw [hkp'.S, sms_get (by omega)]
              have gK2 : y'.K.getD i 0 = ts'.getD i 0 := by rw [hkp'.K]
              have gh := srow_get (hs := hs') (k := i) (by omega)
              have gK := ints_get (l := y'.K) (i := i) (by rw [hyB'.K]; exact hi3)
              have gt := arow_get (p := ts') (k := i) (by omega)
              rw [gS2] at gS
              rw [gK2] at gK
              clear gS2 gK2
              have hSS := hkp'.S
              have hKK := hkp'.K
              have hhi := hhl' i hi3
              generalize hs'.getD i [] = h at *
              generalize ts'.getD i 0 = tv at *
              simp only at gS
              have kc : ((h.length : Int) != (h.length : Int)) = false := by simp
              have kt : (tv != tv) = false := by simp
              have hsw : IntKind.i64.wrap ((h.length : Int) - 8) = (h.length : Int) - 8 := i64_in (by omega) (by omega)
              have hmx : (if 0 > (h.length : Int) - 8 then (0 : Int) else (h.length : Int) - 8).toNat = h.length - 8 := by split <;> omega
              have hmx2 : (if 0 > (h.length : Int) - 8 then (0 : Int) else (h.length : Int) - 8) = ((h.length - 8 : Nat) : Int) := by split <;> omega
              have hdr8 : List.drop (h.length - 8) h = last8 h := rfl
              have htk8 : List.take (h.length - (h.length - 8)) (last8 h) = last8 h := List.take_of_length_le (by unfold last8; rw [List.length_drop]; exact Nat.le_refl _)
              have hSa := c_Same false false (last8 h) (last8 h) (by have := last8_len h; omega)
              have kb : (last8 h == last8 h) = true := by simp
              rw [kb] at hSa
              (repeat (first | refine awp_seq ?_ | refine awp_block ?_ | ((first | refine awp_skip ?_ | refine awp_exit ?_ | refine awp_reg ttok ?_ | (refine awp_draw ttok ?dr_calm ?_; (case dr_calm => decide +kernel)) | refine awp_condM ?_); simp (maxSteps := 4000000) only [↓reduceIte, Nat.reduceLT, Nat.reduceEqDiff, reduceCtorEq, Nat.reduceAdd, Nat.reduceMul, Int.reduceLE, Int.reduceLT, Int.reduceToNat, Nat.reduceLeDiff, Nat.reduceSub, Int.reduceEq, Nat.reduceBEq, evB, tyA, f1, gh, srow_len]; (repeat (with_reducible refine And.intro ?_ ?_; exact sdX)); (with_reducible first | refine awp_id ?_ | refine id_call ?_ | refine id_and ?_ | refine id_ex ?_ | refine id_all ?_ | refine id_nat ?_ | refine id_le ?_))))
              refine awp_drawG ttok ((0, none) :: (1, none) :: (2, none) :: (3, none) :: (4, none) :: (5, none) :: (6, none) :: (7, none) :: (8, none) :: (9, none) :: (10, none) :: (11, none) :: (12, none) :: (13, none) :: (14, none) :: (15, none) :: (16, none) :: (17, none) :: (18, none) :: (19, none) :: (20, none) :: (21, none) :: (22, some []) :: (23, none) :: (24, none) :: (25, none) :: (26, none) :: (27, none) :: (28, none) :: (29, none) :: (30, none) :: (31, none) :: (32, none) :: (33, none) :: (34, none) :: (35, none) :: []) ([]) ([]) (by decide +kernel) fun O hO => ?_; simp only [OpsAre, Nat.reduceAdd, and_true, List.toList_toArray, List.append_eq, List.cons_append, List.nil_append] at hO; simp (maxSteps := 4000000) only [↓reduceIte, Nat.reduceLT, Nat.reduceEqDiff, reduceCtorEq, Nat.reduceAdd, Nat.reduceMul, Int.reduceLE, Int.reduceLT, Int.reduceToNat, Nat.reduceLeDiff, Nat.reduceSub, Int.reduceEq, Nat.reduceBEq, evB, tyA, hO, gS, srs_len, hSl', kc, ints_len, ints_drop, ints_take, hsw, hmx, hmx2, hdr8, htk8, gK, hKl', gt, arow_len, kt]; (repeat (with_reducible refine And.intro ?_ ?_; exact sdX))
              refine callVC_scal fnok11 hSa rfl ?_
              simp (maxSteps := 4000000) only [↓reduceIte, Nat.reduceLT, Nat.reduceEqDiff, reduceCtorEq, Nat.reduceAdd, Nat.reduceMul, Int.reduceLE, Int.reduceLT, Int.reduceToNat, Nat.reduceLeDiff, Nat.reduceSub, Int.reduceEq, Nat.reduceBEq, evB, tyA, hO, gS, srs_len, hSl', kc, ints_len, ints_drop, ints_take, hsw, hmx, hmx2, hdr8, htk8, gK, hKl', gt, arow_len, kt]
              (repeat (with_reducible refine And.intro ?_ ?_; exact sdX))
              (repeat (first | refine awp_seq ?_ | refine awp_block ?_ | ((first | refine awp_skip ?_ | refine awp_exit ?_ | refine awp_reg ttok ?_ | (refine awp_draw ttok ?dr_calm ?_; (case dr_calm => decide +kernel)) | refine awp_condM ?_); simp (maxSteps := 4000000) only [↓reduceIte, Nat.reduceLT, Nat.reduceEqDiff, reduceCtorEq, Nat.reduceAdd, Nat.reduceMul, Int.reduceLE, Int.reduceLT, Int.reduceToNat, Nat.reduceLeDiff, Nat.reduceSub, Int.reduceEq, Nat.reduceBEq, evB, tyA, hwi2]; (repeat (with_reducible refine And.intro ?_ ?_; exact sdX)); (with_reducible first | refine awp_id ?_ | refine id_call ?_ | refine id_and ?_ | refine id_ex ?_ | refine id_all ?_ | refine id_nat ?_ | refine id_le ?_))))
              refine ⟨i + 1, by omega, by omega, mkS_le rfl ?_ ?_⟩
              · exact evX
              · exact evX
            · have f1 : decide ((i : Int) < 3) = false := by simp; omega
              have hNo := c_Note y' (an : Int) (by omega)
              have hyq3 : y'.q - 1 = y.q := by omega
              rw [hyq3] at hNo hn2
              (repeat (first | refine awp_seq ?_ | refine awp_block ?_ | ((first | refine awp_skip ?_ | refine awp_exit ?_ | refine awp_reg ttok ?_ | (refine awp_draw ttok ?dr_calm ?_; (case dr_calm => decide +kernel)) | refine awp_condM ?_); simp (maxSteps := 4000000) only [↓reduceIte, Nat.reduceLT, Nat.reduceEqDiff, reduceCtorEq, Nat.reduceAdd, Nat.reduceMul, Int.reduceLE, Int.reduceLT, Int.reduceToNat, Nat.reduceLeDiff, Nat.reduceSub, Int.reduceEq, Nat.reduceBEq, evB, tyA, f1]; (repeat (with_reducible refine And.intro ?_ ?_; exact sdX)); (with_reducible first | refine awp_id ?_ | refine id_call ?_ | refine id_and ?_ | refine id_ex ?_ | refine id_all ?_ | refine id_nat ?_ | refine id_le ?_))))
              refine awp_drawG ttok ((0, none) :: (1, none) :: (3, none) :: (4, none) :: (5, none) :: (6, none) :: (7, none) :: (8, none) :: (2, some [3, 4, 5, 6, 7, 8]) :: (9, none) :: []) ([]) ([]) (by decide +kernel) fun O hO => ?_; simp only [OpsAre, Nat.reduceAdd, and_true, List.toList_toArray, List.append_eq, List.cons_append, List.nil_append] at hO; simp (maxSteps := 4000000) only [↓reduceIte, Nat.reduceLT, Nat.reduceEqDiff, reduceCtorEq, Nat.reduceAdd, Nat.reduceMul, Int.reduceLE, Int.reduceLT, Int.reduceToNat, Nat.reduceLeDiff, Nat.reduceSub, Int.reduceEq, Nat.reduceBEq, evB, tyA, hO, ]; (repeat (with_reducible refine And.intro ?_ ?_; exact sdX))
              refine callVC_mk fnok12 hNo rfl ?_
              simp (maxSteps := 4000000) only [↓reduceIte, Nat.reduceLT, Nat.reduceEqDiff, reduceCtorEq, Nat.reduceAdd, Nat.reduceMul, Int.reduceLE, Int.reduceLT, Int.reduceToNat, Nat.reduceLeDiff, Nat.reduceSub, Int.reduceEq, Nat.reduceBEq, evB, tyA, hO]
              (repeat (with_reducible refine And.intro ?_ ?_; exact sdX))
              have hone : [[i64 y.q, i64 (an : Int), i64 y'.s]] = tri [(y.q, (an : Int), y'.s)] := rfl
              have hr3 : ∀ m : List Lab, (∀ row ∈ tri m, row.length = 3) = True := fun m => by
                simp only [tri, List.mem_map, eq_iff_iff, iff_true]
                rintro row ⟨x, _, rfl⟩; rfl
              have hta : tri nt ++ tri [(y.q, (an : Int), y'.s)] = tri (nt ++ [(y.q, (an : Int), y'.s)]) := by simp [tri]
              have htk : List.take nt.length nt = nt := List.take_length
              obtain ⟨tn, htn⟩ := Int.eq_ofNat_of_zero_le hsb1
              (repeat (first | refine awp_seq ?_ | refine awp_block ?_ | ((first | refine awp_skip ?_ | refine awp_exit ?_ | refine awp_reg ttok ?_ | (refine awp_draw ttok ?dr_calm ?_; (case dr_calm => decide +kernel)) | refine awp_condM ?_); simp (maxSteps := 4000000) only [↓reduceIte, Nat.reduceLT, Nat.reduceEqDiff, reduceCtorEq, Nat.reduceAdd, Nat.reduceMul, Int.reduceLE, Int.reduceLT, Int.reduceToNat, Nat.reduceLeDiff, Nat.reduceSub, Int.reduceEq, Nat.reduceBEq, evB, tyA]; (repeat (with_reducible refine And.intro ?_ ?_; exact sdX)); (with_reducible first | refine awp_id ?_ | refine id_call ?_ | refine id_and ?_ | refine id_ex ?_ | refine id_all ?_ | refine id_nat ?_ | refine id_le ?_))))
              refine callVC_mk fnok12 hNo rfl ?_
              simp (maxSteps := 4000000) only [↓reduceIte, Nat.reduceLT, Nat.reduceEqDiff, reduceCtorEq, Nat.reduceAdd, Nat.reduceMul, Int.reduceLE, Int.reduceLT, Int.reduceToNat, Nat.reduceLeDiff, Nat.reduceSub, Int.reduceEq, Nat.reduceBEq, evB, tyA, hone, hr3, hta, tri_len, tri_take, htk]
              (repeat (with_reducible refine And.intro ?_ ?_; exact sdX))
              (repeat (first | refine awp_seq ?_ | refine awp_block ?_ | ((first | refine awp_skip ?_ | refine awp_exit ?_ | refine awp_reg ttok ?_ | (refine awp_draw ttok ?dr_calm ?_; (case dr_calm => decide +kernel)) | refine awp_condM ?_); simp (maxSteps := 4000000) only [↓reduceIte, Nat.reduceLT, Nat.reduceEqDiff, reduceCtorEq, Nat.reduceAdd, Nat.reduceMul, Int.reduceLE, Int.reduceLT, Int.reduceToNat, Nat.reduceLeDiff, Nat.reduceSub, Int.reduceEq, Nat.reduceBEq, evB, tyA, hone, hr3, hta, tri_len, tri_take, htk, hwi]; (repeat (with_reducible refine And.intro ?_ ?_; exact sdX)); (with_reducible first | refine awp_id ?_ | refine id_call ?_ | refine id_and ?_ | refine id_ex ?_ | refine id_all ?_ | refine id_nat ?_ | refine id_le ?_))))
              refine ⟨(j + 1, y', hs', ts', nt ++ [(y.q, (an : Int), y'.s)]), ⟨by simp only; omega, by simp only; omega, by simp only [List.length_append, List.length_cons, List.length_nil]; omega, hn2, hkp', tn, htn, by omega⟩, by simp only; omega, mkS_le rfl ?_ ?_⟩
              · simp (maxSteps := 4000000) only [↓reduceIte, Nat.reduceLT, Nat.reduceEqDiff, reduceCtorEq, Nat.reduceAdd, Nat.reduceMul, Int.reduceLE, Int.reduceLT, Int.reduceToNat, Nat.reduceLeDiff, Nat.reduceSub, Int.reduceEq, Nat.reduceBEq, evB, List.length_append, List.length_cons, List.length_nil]
              · exact evX
        · have hno : applyI x lb y a = none := by
            by_cases q : 0 ≤ a ∧ a < (x.A.length : Int)
            · obtain ⟨an, rfl⟩ := Int.eq_ofNat_of_zero_le q.1
              rw [apply_can hw hnd (by omega) hxL hys hns, if_neg (fun z => hc ⟨q.1, q.2, by rw [Int.toNat_natCast]; exact z⟩)]
            · unfold applyI; rw [if_neg q]
          rw [hno] at hAp
          have kn : (false != false) = false := rfl
          (repeat (first | refine awp_seq ?_ | refine awp_block ?_ | ((first | refine awp_skip ?_ | refine awp_exit ?_ | refine awp_reg ttok ?_ | (refine awp_draw ttok ?dr_calm ?_; (case dr_calm => decide +kernel)) | refine awp_condM ?_); simp (maxSteps := 4000000) only [↓reduceIte, Nat.reduceLT, Nat.reduceEqDiff, reduceCtorEq, Nat.reduceAdd, Nat.reduceMul, Int.reduceLE, Int.reduceLT, Int.reduceToNat, Nat.reduceLeDiff, Nat.reduceSub, Int.reduceEq, Nat.reduceBEq, evB, tyA, d1, d2, ints_len, gs, haw, haw1]; (repeat (with_reducible refine And.intro ?_ ?_; exact sdX)); (with_reducible first | refine awp_id ?_ | refine id_call ?_ | refine id_and ?_ | refine id_ex ?_ | refine id_all ?_ | refine id_nat ?_ | refine id_le ?_))))
          refine callVC_mk fnok9 hAp rfl ?_
          simp (maxSteps := 4000000) only [↓reduceIte, Nat.reduceLT, Nat.reduceEqDiff, reduceCtorEq, Nat.reduceAdd, Nat.reduceMul, Int.reduceLE, Int.reduceLT, Int.reduceToNat, Nat.reduceLeDiff, Nat.reduceSub, Int.reduceEq, Nat.reduceBEq, evB, tyA, apD]
          (repeat (with_reducible refine And.intro ?_ ?_; exact sdX))
          by_cases q0 : a < 0
          · have e1 : decide (a ≥ 0) = false := by simp; omega
            (repeat (first | refine awp_seq ?_ | refine awp_block ?_ | ((first | refine awp_skip ?_ | refine awp_exit ?_ | refine awp_reg ttok ?_ | (refine awp_draw ttok ?dr_calm ?_; (case dr_calm => decide +kernel)) | refine awp_condM ?_); simp (maxSteps := 4000000) only [↓reduceIte, Nat.reduceLT, Nat.reduceEqDiff, reduceCtorEq, Nat.reduceAdd, Nat.reduceMul, Int.reduceLE, Int.reduceLT, Int.reduceToNat, Nat.reduceLeDiff, Nat.reduceSub, Int.reduceEq, Nat.reduceBEq, evB, tyA, e1, duo_len, kn]; (repeat (with_reducible refine And.intro ?_ ?_; exact sdX)); (with_reducible first | refine awp_id ?_ | refine id_call ?_ | refine id_and ?_ | refine id_ex ?_ | refine id_all ?_ | refine id_nat ?_ | refine id_le ?_))))
            refine callVC_scal fnok10 hSm rfl ?_
            simp (maxSteps := 4000000) only [↓reduceIte, Nat.reduceLT, Nat.reduceEqDiff, reduceCtorEq, Nat.reduceAdd, Nat.reduceMul, Int.reduceLE, Int.reduceLT, Int.reduceToNat, Nat.reduceLeDiff, Nat.reduceSub, Int.reduceEq, Nat.reduceBEq, evB, tyA]
            (repeat (with_reducible refine And.intro ?_ ?_; exact sdX))
            (repeat (first | refine awp_seq ?_ | refine awp_block ?_ | ((first | refine awp_skip ?_ | refine awp_exit ?_ | refine awp_reg ttok ?_ | (refine awp_draw ttok ?dr_calm ?_; (case dr_calm => decide +kernel)) | refine awp_condM ?_); simp (maxSteps := 4000000) only [↓reduceIte, Nat.reduceLT, Nat.reduceEqDiff, reduceCtorEq, Nat.reduceAdd, Nat.reduceMul, Int.reduceLE, Int.reduceLT, Int.reduceToNat, Nat.reduceLeDiff, Nat.reduceSub, Int.reduceEq, Nat.reduceBEq, evB, tyA, hwi]; (repeat (with_reducible refine And.intro ?_ ?_; exact sdX)); (with_reducible first | refine awp_id ?_ | refine id_call ?_ | refine id_and ?_ | refine id_ex ?_ | refine id_all ?_ | refine id_nat ?_ | refine id_le ?_))))
            refine ⟨(j + 1, y, hs, ts, nt), ⟨by simp only; omega, by simp only; omega, by simp only; omega, hn, hkp, ns, hys, hns⟩, by simp only; omega, mkS_le rfl ?_ ?_⟩
            · exact evX
            · exact evX
          have e1 : decide (a ≥ 0) = true := by simp; omega
          by_cases q1 : (x.A.length : Int) ≤ a
          · have e2 : decide (a < (x.A.length : Int)) = false := by simp; omega
            (repeat (first | refine awp_seq ?_ | refine awp_block ?_ | ((first | refine awp_skip ?_ | refine awp_exit ?_ | refine awp_reg ttok ?_ | (refine awp_draw ttok ?dr_calm ?_; (case dr_calm => decide +kernel)) | refine awp_condM ?_); simp (maxSteps := 4000000) only [↓reduceIte, Nat.reduceLT, Nat.reduceEqDiff, reduceCtorEq, Nat.reduceAdd, Nat.reduceMul, Int.reduceLE, Int.reduceLT, Int.reduceToNat, Nat.reduceLeDiff, Nat.reduceSub, Int.reduceEq, Nat.reduceBEq, evB, tyA, e1, e2, duo_len, kn]; (repeat (with_reducible refine And.intro ?_ ?_; exact sdX)); (with_reducible first | refine awp_id ?_ | refine id_call ?_ | refine id_and ?_ | refine id_ex ?_ | refine id_all ?_ | refine id_nat ?_ | refine id_le ?_))))
            refine callVC_scal fnok10 hSm rfl ?_
            simp (maxSteps := 4000000) only [↓reduceIte, Nat.reduceLT, Nat.reduceEqDiff, reduceCtorEq, Nat.reduceAdd, Nat.reduceMul, Int.reduceLE, Int.reduceLT, Int.reduceToNat, Nat.reduceLeDiff, Nat.reduceSub, Int.reduceEq, Nat.reduceBEq, evB, tyA]
            (repeat (with_reducible refine And.intro ?_ ?_; exact sdX))
            (repeat (first | refine awp_seq ?_ | refine awp_block ?_ | ((first | refine awp_skip ?_ | refine awp_exit ?_ | refine awp_reg ttok ?_ | (refine awp_draw ttok ?dr_calm ?_; (case dr_calm => decide +kernel)) | refine awp_condM ?_); simp (maxSteps := 4000000) only [↓reduceIte, Nat.reduceLT, Nat.reduceEqDiff, reduceCtorEq, Nat.reduceAdd, Nat.reduceMul, Int.reduceLE, Int.reduceLT, Int.reduceToNat, Nat.reduceLeDiff, Nat.reduceSub, Int.reduceEq, Nat.reduceBEq, evB, tyA, hwi]; (repeat (with_reducible refine And.intro ?_ ?_; exact sdX)); (with_reducible first | refine awp_id ?_ | refine id_call ?_ | refine id_and ?_ | refine id_ex ?_ | refine id_all ?_ | refine id_nat ?_ | refine id_le ?_))))
            refine ⟨(j + 1, y, hs, ts, nt), ⟨by simp only; omega, by simp only; omega, by simp only; omega, hn, hkp, ns, hys, hns⟩, by simp only; omega, mkS_le rfl ?_ ?_⟩
            · exact evX
            · exact evX
          · have e2 : decide (a < (x.A.length : Int)) = true := by simp; omega
            obtain ⟨an, rfl⟩ := Int.eq_ofNat_of_zero_le (show 0 ≤ a by omega)
            have hm1 : (if (x.A.length : Int) - 1 < (an : Int) then (x.A.length : Int) - 1 else (an : Int)) = (an : Int) := by rw [if_neg (by omega)]
            have hm2 : (if 0 > (an : Int) then 0 else (an : Int)) = (an : Int) := by rw [if_neg (by omega)]
            have gN := iis_get (l := x.N) (i := ns) hns
            have hrl := (hw.ok.get (s := ns) (by have := hw.ok.len; omega)).1
            have gR := ints_get (l := x.N.getD ns []) (i := an) (by omega)
            rw [Int.toNat_natCast] at hc
            generalize x.N.getD ns [] = row at *
            have e3 : decide (row.getD an 0 ≥ 0) = false := by
              simp only [decide_eq_false_iff_not]
              intro z; exact hc ⟨by omega, by omega, z⟩
            generalize row.getD an 0 = rv at *
            rw [hys] at hSm
            (repeat (first | refine awp_seq ?_ | refine awp_block ?_ | ((first | refine awp_skip ?_ | refine awp_exit ?_ | refine awp_reg ttok ?_ | (refine awp_draw ttok ?dr_calm ?_; (case dr_calm => decide +kernel)) | refine awp_condM ?_); simp (maxSteps := 4000000) only [↓reduceIte, Nat.reduceLT, Nat.reduceEqDiff, reduceCtorEq, Nat.reduceAdd, Nat.reduceMul, Int.reduceLE, Int.reduceLT, Int.reduceToNat, Nat.reduceLeDiff, Nat.reduceSub, Int.reduceEq, Nat.reduceBEq, evB, tyA, e1, e2, e3, duo_len, kn, hwl, hm1, hm2, hys, gN, gR, iis_len, ints_len]; (repeat (with_reducible refine And.intro ?_ ?_; exact sdX)); (with_reducible first | refine awp_id ?_ | refine id_call ?_ | refine id_and ?_ | refine id_ex ?_ | refine id_all ?_ | refine id_nat ?_ | refine id_le ?_))))
            refine callVC_scal fnok10 hSm rfl ?_
            simp (maxSteps := 4000000) only [↓reduceIte, Nat.reduceLT, Nat.reduceEqDiff, reduceCtorEq, Nat.reduceAdd, Nat.reduceMul, Int.reduceLE, Int.reduceLT, Int.reduceToNat, Nat.reduceLeDiff, Nat.reduceSub, Int.reduceEq, Nat.reduceBEq, evB, tyA]
            (repeat (with_reducible refine And.intro ?_ ?_; exact sdX))
            (repeat (first | refine awp_seq ?_ | refine awp_block ?_ | ((first | refine awp_skip ?_ | refine awp_exit ?_ | refine awp_reg ttok ?_ | (refine awp_draw ttok ?dr_calm ?_; (case dr_calm => decide +kernel)) | refine awp_condM ?_); simp (maxSteps := 4000000) only [↓reduceIte, Nat.reduceLT, Nat.reduceEqDiff, reduceCtorEq, Nat.reduceAdd, Nat.reduceMul, Int.reduceLE, Int.reduceLT, Int.reduceToNat, Nat.reduceLeDiff, Nat.reduceSub, Int.reduceEq, Nat.reduceBEq, evB, tyA, hwi]; (repeat (with_reducible refine And.intro ?_ ?_; exact sdX)); (with_reducible first | refine awp_id ?_ | refine id_call ?_ | refine id_and ?_ | refine id_ex ?_ | refine id_all ?_ | refine id_nat ?_ | refine id_le ?_))))
            refine ⟨(j + 1, y, hs, ts, nt), ⟨by simp only; omega, by simp only; omega, by simp only; omega, hn, hkp, ns, hys, hns⟩, by simp only; omega, mkS_le rfl ?_ ?_⟩
            · exact evX
            · exact evX
      · have hd : (decide ((j : Int) < (s.length : Int)) = true ∧ decide ((j : Int) < 30) = false) ∨ (decide ((j : Int) < (s.length : Int)) = false ∧ True) := by
          by_cases h : j < s.length
          · left; exact ⟨by simpa using h, by simp; omega⟩
          · right; exact ⟨by simp; omega, trivial⟩
        rcases hd with ⟨d1, d2⟩ | ⟨d1, d2⟩
        all_goals
          (repeat (first | refine awp_seq ?_ | refine awp_block ?_ | ((first | refine awp_skip ?_ | refine awp_exit ?_ | refine awp_reg ttok ?_ | (refine awp_draw ttok ?dr_calm ?_; (case dr_calm => decide +kernel)) | refine awp_condM ?_); simp (maxSteps := 4000000) only [↓reduceIte, Nat.reduceLT, Nat.reduceEqDiff, reduceCtorEq, Nat.reduceAdd, Nat.reduceMul, Int.reduceLE, Int.reduceLT, Int.reduceToNat, Nat.reduceLeDiff, Nat.reduceSub, Int.reduceEq, Nat.reduceBEq, evB, tyA, d1, d2, ints_len, joinX]; (repeat (with_reducible refine And.intro ?_ ?_; exact sdX)); (with_reducible first | refine awp_id ?_ | refine id_call ?_ | refine id_and ?_ | refine id_ex ?_ | refine id_all ?_ | refine id_nat ?_ | refine id_le ?_))))
          refine ⟨(y, nt), ⟨hn, by simp only; omega⟩, mkS_le rfl ?_ ?_⟩
          · exact evX
          · exact evX
  · rintro ⟨y, nt⟩ ⟨hn, hnl⟩
    simp only at hn hnl
    have hRe := c_Replay false false x hw lb hA fi hb0 nt (by omega)
    rw [hn.re] at hRe
    have hyB := hn.b
    have hSm := c_rSame false false false false y.q y.s y.S y.K y.q y.s y.S y.K (by rw [hyB.S]; decide) (by rw [hyB.K]; decide) (fun z hz => by have := (hyB.c z hz).2.2; omega)
    rw [sameI_refl] at hSm
    have htk : List.take nt.length nt = nt := List.take_length
    (repeat (first | refine awp_seq ?_ | refine awp_block ?_ | ((first | refine awp_skip ?_ | refine awp_exit ?_ | refine awp_reg ttok ?_ | (refine awp_draw ttok ?dr_calm ?_; (case dr_calm => decide +kernel)) | refine awp_condM ?_); simp (maxSteps := 4000000) only [↓reduceIte, Nat.reduceLT, Nat.reduceEqDiff, reduceCtorEq, Nat.reduceAdd, Nat.reduceMul, Int.reduceLE, Int.reduceLT, Int.reduceToNat, Nat.reduceLeDiff, Nat.reduceSub, Int.reduceEq, Nat.reduceBEq, evB, tyA]; (repeat (with_reducible refine And.intro ?_ ?_; exact sdX)); (with_reducible first | refine awp_id ?_ | refine id_call ?_ | refine id_and ?_ | refine id_ex ?_ | refine id_all ?_ | refine id_nat ?_ | refine id_le ?_))))
    refine awp_drawS ttok (mkS 304 [(12, .ptr 7004 0 0), (24, .ptr 36011 0 0), (25, bo true)] [(7004, { sz := 4, rows := [imC y], flat := false }), (36011, { sz := 4, rows := [imC y], flat := false })]) (.nd 5 11 .lf (.nd 7 11 .lf .lf)) [((0, none) :: (1, none) :: (2, none) :: (3, none) :: (4, none) :: (6, none) :: (11, some [0, 1, 2, 3, 4, 6]) :: (5, some [0, 1, 6]) :: (7, some []) :: (8, none) :: (9, none) :: (10, none) :: (12, some [10]) :: (13, none) :: []), ((0, none) :: (1, none) :: (2, none) :: (3, none) :: (4, none) :: (6, none) :: (5, some [0, 1, 6]) :: (11, some [0, 1, 6]) :: (7, some []) :: (8, none) :: (9, none) :: (10, none) :: (12, some [10]) :: (13, none) :: []), ((0, none) :: (1, none) :: (2, none) :: (3, none) :: (4, none) :: (6, none) :: (5, some [0, 1, 6]) :: (7, some []) :: (8, none) :: (9, none) :: (10, none) :: (11, some [8, 9, 10]) :: (12, some [10]) :: (13, none) :: [])] [0, 1, 2, 3, 4, 6, 5, 7, 8, 9, 10, 11, 12, 13] [0, 1, 2, 3, 4, 5, 6, 7, 8, 9, 10, 11, 12, 13] [0, 1, 2, 3, 4, 5, 6, 7, 8, 9, 11, 12, 10, 13] (by decide +kernel) ?_ (fun O hO => ?_)
    rotate_left
    · simp only [OpsAre, Nat.reduceAdd, and_true] at hO
      simp only [aopsS_cons, aopsS_nil, and_true]
      repeat' apply And.intro
      all_goals
        simp (maxSteps := 4000000) only [↓reduceIte, Nat.reduceLT, Nat.reduceEqDiff, reduceCtorEq, Nat.reduceAdd, Nat.reduceMul, Int.reduceLE, Int.reduceLT, Int.reduceToNat, Nat.reduceLeDiff, Nat.reduceSub, Int.reduceEq, Nat.reduceBEq, evB, tyA, hO]; (repeat (with_reducible refine And.intro ?_ ?_; exact sdX))
        refine callVC_mk fnok8 hFi rfl ?_
        simp (maxSteps := 4000000) only [↓reduceIte, Nat.reduceLT, Nat.reduceEqDiff, reduceCtorEq, Nat.reduceAdd, Nat.reduceMul, Int.reduceLE, Int.reduceLT, Int.reduceToNat, Nat.reduceLeDiff, Nat.reduceSub, Int.reduceEq, Nat.reduceBEq, evB, tyA, hO, tri_len, tri_take, htk]
        (repeat (with_reducible refine And.intro ?_ ?_; exact sdX))
        refine callVC_mk fnok13 hRe rfl ?_
        simp (maxSteps := 4000000) only [↓reduceIte, Nat.reduceLT, Nat.reduceEqDiff, reduceCtorEq, Nat.reduceAdd, Nat.reduceMul, Int.reduceLE, Int.reduceLT, Int.reduceToNat, Nat.reduceLeDiff, Nat.reduceSub, Int.reduceEq, Nat.reduceBEq, evB, tyA, hO, apD]
        (repeat (with_reducible refine And.intro ?_ ?_; exact sdX))
        refine mkS_le rfl ?_ ?_
        · exact evX
        · exact evX
    (repeat (first | refine awp_seq ?_ | refine awp_block ?_ | ((first | refine awp_skip ?_ | refine awp_exit ?_ | refine awp_reg ttok ?_ | (refine awp_draw ttok ?dr_calm ?_; (case dr_calm => decide +kernel)) | refine awp_condM ?_); simp (maxSteps := 4000000) only [↓reduceIte, Nat.reduceLT, Nat.reduceEqDiff, reduceCtorEq, Nat.reduceAdd, Nat.reduceMul, Int.reduceLE, Int.reduceLT, Int.reduceToNat, Nat.reduceLeDiff, Nat.reduceSub, Int.reduceEq, Nat.reduceBEq, evB, tyA]; (repeat (with_reducible refine And.intro ?_ ?_; exact sdX)); (with_reducible first | refine awp_id ?_ | refine id_call ?_ | refine id_and ?_ | refine id_ex ?_ | refine id_all ?_ | refine id_nat ?_ | refine id_le ?_))))
    refine callVC_scal fnok7 c_awake39 rfl ?_
    simp (maxSteps := 4000000) only [↓reduceIte, Nat.reduceLT, Nat.reduceEqDiff, reduceCtorEq, Nat.reduceAdd, Nat.reduceMul, Int.reduceLE, Int.reduceLT, Int.reduceToNat, Nat.reduceLeDiff, Nat.reduceSub, Int.reduceEq, Nat.reduceBEq, evB, tyA]
    (repeat (with_reducible refine And.intro ?_ ?_; exact sdX))
    refine callVC_scal fnok10 hSm rfl ?_
    simp (maxSteps := 4000000) only [↓reduceIte, Nat.reduceLT, Nat.reduceEqDiff, reduceCtorEq, Nat.reduceAdd, Nat.reduceMul, Int.reduceLE, Int.reduceLT, Int.reduceToNat, Nat.reduceLeDiff, Nat.reduceSub, Int.reduceEq, Nat.reduceBEq, evB, tyA]
    (repeat (with_reducible refine And.intro ?_ ?_; exact sdX))
    (repeat (first | refine awp_seq ?_ | refine awp_block ?_ | ((first | refine awp_skip ?_ | refine awp_exit ?_ | refine awp_reg ttok ?_ | (refine awp_draw ttok ?dr_calm ?_; (case dr_calm => decide +kernel)) | refine awp_condM ?_); simp (maxSteps := 4000000) only [↓reduceIte, Nat.reduceLT, Nat.reduceEqDiff, reduceCtorEq, Nat.reduceAdd, Nat.reduceMul, Int.reduceLE, Int.reduceLT, Int.reduceToNat, Nat.reduceLeDiff, Nat.reduceSub, Int.reduceEq, Nat.reduceBEq, evB, tyA]; (repeat (with_reducible refine And.intro ?_ ?_; exact sdX)); (with_reducible first | refine awp_id ?_ | refine id_call ?_ | refine id_and ?_ | refine id_ex ?_ | refine id_all ?_ | refine id_nat ?_ | refine id_le ?_))))
    exact awp_ret (ends_plain (.inr rfl) rfl evX)
end Go.Proofs.Ytkpplakjdcpoaaa
namespace Go.Proofs.Ytkpplakjdcpoaaa.procApplies
open Go.ChangeShapes Go.WideShapes Go.ChangeAt Go.RowKit
open Go.Ab
theorem own : ownKnob Try.prog.godebug = none := by kernel_rfl
theorem laidOut : laidOutB Try.prog = true := by kernel_rfl
set_option maxRecDepth 100000 in
theorem lifted (os : Os) (started : os.Started) (H : Type) (enc : TypeId × Value → H) :
    ReturnsInHanded {} Try.checked os 3 .any (Rows.procAppliesSpec.pre6 enc Try.prog Try.f3 Rows.procAppliesRow.domain false) (Rows.procAppliesSpec.post enc Try.prog Try.f3 false true false false) := by
  refine returnsInHanded_of_change (C := Try.checked) own started (by kernel_rfl) Try.func3
    (ChangeSpec.witness6 (enc := enc) (C := Try.checked) false ⟨#[], #[.slice none 0 0, .agg #[.int .i64 0, .int .i64 0, .int .i64 0], .slice none 0 0], []⟩ 8 (by kernel_rfl) (by kernel_rfl) (by kernel_rfl) (by kernel_rfl)) ?_
  intro W base args ds gs before hval0 hW hcnd _
  have hval : ∀ (j : Nat) t v, Try.f3.params[j]? = some t → args[j]? = some v → Value.okWide Try.prog W .any base t v := hval0
  have hW' := hW
  obtain ⟨p, q, hA0, hV, rfl, hfz, hnd⟩ := hW
  have hA : DataW.TrodAll enc Try.prog W 0 (fun _ => true) true Try.f3.params.toList args.toList ds p := hA0
  rw [Try.params3] at hA hval
  obtain ⟨v0, vs0, d0, ds0, p0, q0, hargs, rfl, rfl, k0, r0⟩ := trodAll_cons hA
  obtain ⟨v1, vs1, d1, ds1, p1, q1, rfl, rfl, rfl, k1, r1⟩ := trodAll_cons r0
  obtain ⟨v2, vs2, d2, ds2, p2, q2, rfl, rfl, rfl, k2, r2⟩ := trodAll_cons r1
  obtain ⟨rfl, rfl, rfl⟩ := trodAll_nil r2
  obtain rfl : args = #[v0, v1, v2] := by cases args; simp_all
  obtain ⟨rfl, rfl⟩ := trodVars_none hV
  obtain ⟨a0, h0, e0⟩ := opensArg_slice Try.underlying22 (opens_slice Try.underlying22 (opens_arr3i Try.underlying23 (by kernel_rfl) (by kernel_rfl) Try.underlying3) (fun a => by kernel_rfl) (by decide +kernel)) H enc W base v0 d0 p0 (hval 0 _ v0 rfl rfl) k0
  obtain ⟨a1, h1, e1⟩ := opensArg_agg Try.underlying23 rfl (opens_arr3i Try.underlying23 (by kernel_rfl) (by kernel_rfl) Try.underlying3) H enc W base v1 d1 p1 (hval 1 _ v1 rfl rfl) k1
  obtain ⟨a2, h2, e2⟩ := opensArg_slice Try.underlying24 (opens_ints Try.underlying24 Try.underlying3 (by kernel_rfl)) H enc W base v2 d2 p2 (hval 2 _ v2 rfl rfl) k2
  refine (law_walk (c_ProcApplies false false a0 a1.1 a1.2.1 a1.2.2 a2 h0.1 h2.1) (vs := [v0, v1, v2]) ⟨e0, e1, e2, trivial⟩).mono fun e W' ⟨he, bel⟩ => ?_
  subst he
  exact ⟨_, rfl, law_end hW' rfl bel rfl rfl rfl rfl Try.underlying4 laidOut (by kernel_rfl)⟩
theorem proved : Rows.ProcAppliesSaid :=
  OpenClaim.holds_of_wide 3 Try.f3 rfl rfl rfl rfl rfl rfl rfl ⟨rfl, rfl, rfl, rfl, rfl⟩ rfl rfl rfl rfl rfl (by kernel_rfl) Try.func3 (by kernel_rfl)
    (of_decide_eq_true (by kernel_rfl)) (by unfold Func.isWrapper; first | (rw [if_pos (by decide +kernel)]; kernel_rfl) | (rw [if_neg (by decide +kernel)]; exact ⟨rfl, rfl⟩))
    (fun os started H enc _ => lifted os started H enc)
#print axioms proved
end Go.Proofs.Ytkpplakjdcpoaaa.procApplies
