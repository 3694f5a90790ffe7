import Derived.Test.YtkpplakjdcpoaaaGl
import Derived.Test.YtkpplakjdcpoaaaPe
import Derived.Test.YtkpplakjdcpoaaaRows
import Derived.Test.YtkpplakjdcpoaaaFin
set_option linter.unusedSimpArgs false
set_option linter.unusedVariables false
namespace Go.Proofs.Ytkpplakjdcpoaaa
open Go.Ab
theorem goodA_acts {lb : List Lab} (hg : GoodL lb 3) (part : Int) : ∀ n, n ≤ lb.length → GoodA (acts lb part n) lb 3
  | 0, _ => fun j hj => by simp [acts] at hj
  | n + 1, hn => fun j hj => by
    have ih := goodA_acts hg part n (by omega)
    simp only [acts] at hj ⊢
    by_cases h : j < (acts lb part n).length
    · obtain ⟨d, k, o, h1, h2⟩ := ih j h
      refine ⟨d, k, o, ?_, h2⟩
      rw [← h1]
      simp [List.getD, List.getElem?_append_left h]
    · obtain ⟨u, v, hu, hv, huv, x1, x2⟩ := hg n (by omega)
      have e : (acts lb part n ++ actOf part (lb.getD n (0, 0, 0)) n).getD j (0, 0) = (actOf part (lb.getD n (0, 0, 0)) n).getD (j - (acts lb part n).length) (0, 0) := by
        simp only [List.getD, List.getElem?_append_right (Nat.le_of_not_lt h)]
      rw [e]
      rw [List.length_append] at hj
      unfold actOf at hj ⊢
      by_cases h1 : part = (lb.getD n (0, 0, 0)).1
      · rw [if_pos h1] at hj ⊢
        have : j - (acts lb part n).length = 0 := by simp at hj; omega
        rw [this]
        exact ⟨1, n, v, rfl, by omega, hv, by rw [if_pos rfl]; exact x2⟩
      · rw [if_neg h1] at hj ⊢
        by_cases h2 : part = (lb.getD n (0, 0, 0)).2.1
        · rw [if_pos h2] at hj ⊢
          have : j - (acts lb part n).length = 0 := by simp at hj; omega
          rw [this]
          exact ⟨2, n, u, rfl, by omega, hu, by rw [if_neg (by decide)]; exact x1⟩
        · rw [if_neg h2] at hj
          simp at hj; omega
theorem replay_snoc (x : Pr) (lb : List Lab) (r : Int × Int × Int) : ∀ (l : List (Int × Int × Int)) (f i y : Img), replayI x lb f l = some i → applyI x lb i r.2.1 = some y → r.1 = i.q → r.2.2 = y.s → replayI x lb f (l ++ [r]) = some y
  | [], f, i, y, h, ha, h1, h2 => by
    simp only [replayI, Option.some.injEq] at h
    subst h
    simp only [List.nil_append, replayI, ha]
    rw [if_pos ⟨h1, h2⟩]
  | s :: l, f, i, y, h, ha, h1, h2 => by
    simp only [List.cons_append, replayI] at h ⊢
    cases hs : applyI x lb f s.2.1 with
    | none => rw [hs] at h; cases h
    | some z =>
      rw [hs] at h
      simp only at h ⊢
      split at h
      · rename_i q
        rw [if_pos q]
        exact replay_snoc x lb r l z i y h ha h1 h2
      · cases h
def badN (A : List (Int × Int)) (r r' : Int × Int × Int) : Prop := (r'.2.1 = r.2.1 ∧ (r'.1 ≠ r.1 ∨ r'.2.2 ≠ r.2.2)) ∨ r'.2.1 < 0 ∨ (A.length : Int) ≤ r'.2.1
theorem replay_bad {x : Pr} {lb : List Lab} {r' : Int × Int × Int} : ∀ (l : List (Int × Int × Int)) (k : Nat) (f i : Img), replayI x lb f l = some i → k < l.length → badN x.A (l.getD k (0, 0, 0)) r' → replayI x lb f (l.set k r') = none
  | [], k, f, i, h, hk, hb => by simp at hk
  | r :: l, 0, f, i, h, hk, hb => by
    simp only [List.set_cons_zero, replayI] at h ⊢
    have hb : badN x.A r r' := hb
    cases hs : applyI x lb f r.2.1 with
    | none => rw [hs] at h; cases h
    | some z =>
      rw [hs] at h
      simp only at h
      split at h
      · rename_i q
        rcases hb with ⟨h1, h2⟩ | h2
        · rw [h1, hs]
          simp only
          rw [if_neg]
          rintro ⟨e1, e2⟩
          rcases h2 with h2 | h2
          · exact h2 (e1.trans q.1.symm)
          · exact h2 (e2.trans q.2.symm)
        · have : applyI x lb f r'.2.1 = none := by unfold applyI; rw [if_neg (by omega)]
          rw [this]
      · cases h
  | r :: l, k + 1, f, i, h, hk, hb => by
    simp only [List.set_cons_succ, replayI] at h ⊢
    cases hs : applyI x lb f r.2.1 with
    | none => rfl
    | some z =>
      rw [hs] at h
      simp only at h ⊢
      split at h
      · rename_i q
        rw [if_pos q]
        exact replay_bad l k z i h (by simpa using hk) (by simpa using hb)
      · rename_i q
        rw [if_neg q]
structure Noted (x : Pr) (lb : List Lab) (f : Img) (l : List (Int × Int × Int)) (i : Img) : Prop where
  re : replayI x lb f l = some i
  q : i.q = l.length
  b : ImgB 3 l.length i
  st : ∀ r ∈ l, 0 ≤ r.1 ∧ r.1 ≤ l.length ∧ 0 ≤ r.2.2 ∧ r.2.2 ≤ 1024
theorem toD_lt {x : Pr} (h : PWf x) (s k : Int) : toD x.N s k < 1024 := by
  have hn := h.n
  have := toD_ok h.ok s k
  omega
theorem applied {x : Pr} (hx : PWf x) {lb : List Lab} {i y : Img} {a : Int} (h : applyI x lb i a = some y) : y.q = i.q + 1 ∧ 0 ≤ y.s ∧ y.s < 1024 := by
  unfold applyI at h
  split at h
  · split at h
    · rename_i h1 h2
      have hlt := toD_lt hx i.s (findA x.A (x.A.getD a.toNat (0, 0)))
      cases h
      unfold didI
      split
      · exact ⟨rfl, h2, hlt⟩
      · exact ⟨rfl, h2, hlt⟩
    · cases h
  · cases h
theorem Noted.snoc {x : Pr} (hx : PWf x) {lb : List Lab} {f i y : Img} {l : List (Int × Int × Int)} (h : Noted x lb f l i) {a : Int} (ha : applyI x lb i a = some y) : Noted x lb f (l ++ [(y.q - 1, a, y.s)]) y := by
  obtain ⟨h1, h2, h3⟩ := applied hx ha
  have hq := h.q
  refine ⟨replay_snoc x lb _ l f i y h.re ha (by simp only; omega) rfl, by rw [List.length_append, h1, hq]; simp, ?_, fun r hr => ?_⟩
  · have := h.b.apply ha
    rw [List.length_append]
    exact this
  · rw [List.length_append]
    rcases List.mem_append.1 hr with g | g
    · have := h.st r g
      simp only [List.length_cons, List.length_nil]
      omega
    · rw [List.mem_singleton] at g
      subst g
      simp only [List.length_cons, List.length_nil]
      omega
theorem Noted.nil (x : Pr) (lb : List Lab) (f : Img) (h : ImgB 3 0 f) : Noted x lb f [] f :=
  ⟨rfl, by have := h.q; simp; omega, h, fun r hr => by cases hr⟩
theorem sameI_refl (i : Img) : sameI i.q i.s i.S i.K i.q i.s i.S i.K = true := by simp [sameI]
structure POk (lb : List Lab) (st : Nat) (F : List Bool) (N : List (List Int)) (part : Int) (x : Pr) : Prop where
  wf : PWf x
  p : x.p = part
  A : x.A = acts lb part lb.length
  L : x.L = x.A.length
  s0 : x.st = 0
  of : ∀ f, Contract Try.prog 16 [dfaD lb.length st F N, .sl f (tri lb), i64 part] (.tup [dfaD x.L 0 x.F x.N, .sl false (duo x.A), i64 0]) []
section
variable {k : Nat} {N : List (List Int)} {lb : List Lab}
theorem peers_pick (h : NOk lb.length k N) (hL : lb.length ≤ 1000) (hk : 1 ≤ k ∧ k ≤ 10) (st : Nat) (hst : st < k) (F : List Bool) (hF : F.length = k) (hv : (liveL F N).getD st false = true) :
    ∃ g : Int → Pr, ∀ p, POk lb st F N p (g p) := by
  have key : ∀ p : Int, ∃ x : Pr, POk lb st F N p x := fun p => by
    rcases hide_says h hL hk st hst F hF p with ⟨_, j, H, Y, h1, h2, hY, hH, hOf, _⟩ | ⟨h0, _⟩
    · have hal := acts_len lb p lb.length
      have hl := hY.len
      refine ⟨⟨p, acts lb p lb.length, (acts lb p lb.length).length, 0, H, Y⟩, ⟨by simp only [hl]; exact hY, by simp only [hl]; exact hH, by simp only [hl]; exact ⟨h1, h2⟩, by simp only [hl]; omega, by simp only; omega⟩, rfl, rfl, rfl, rfl, hOf⟩
    · rw [hv] at h0; cases h0
  exact Classical.axiomOfChoice key
def prs (l : List Pr) : List (List D) := l.map fun x => prC x
theorem prs_len (l : List Pr) : (prs l).length = l.length := by simp [prs]
theorem prs_app (l m : List Pr) : prs l ++ prs m = prs (l ++ m) := by simp [prs]
theorem prs_row (l : List Pr) : (∀ row ∈ prs l, row.length = 6) = True := by
  simp only [prs, List.mem_map, eq_iff_iff, iff_true]
  rintro row ⟨x, _, rfl⟩; rfl
def firstP (g : Int → Pr) (n : Nat) : List Pr := (List.range n).map fun (i : Nat) => g (i : Int)
theorem firstP_len (g : Int → Pr) (n : Nat) : (firstP g n).length = n := by simp [firstP]
theorem firstP_succ (g : Int → Pr) (n : Nat) : firstP g (n + 1) = firstP g n ++ [g (n : Int)] := by simp [firstP, List.range_succ]
theorem prs_get {g : Int → Pr} {n i : Nat} (h : i < n) : (prs (firstP g n)).getD i [] = prC (g (i : Int)) := by
  simp [prs, firstP, List.getD, h]
theorem prs_zero (g : Int → Pr) : prs (firstP g 0) = [] := rfl
set_option maxHeartbeats 16000000 in
theorem c_Peers (h : NOk lb.length k N) (st : Nat) (F : List Bool) (f : Bool) {g : Int → Pr} (hg : ∀ p, POk lb st F N p (g p)) :
    Contract Try.prog 6 [dfaD lb.length st F N, .sl f (tri lb)] (.tup [.sl false (prs (firstP g 3)), bo true]) [] := by
  refine contract_of_awp (rs := [4, 5]) Try.func6 rfl Try.ntmps6 (by simp) rfl fun E => ?_
  have k1 : ((0 : Int) != 0) = false := rfl
  have hz := prs_zero g
  (repeat (first | refine awp_seq ?_ | refine awp_block ?_ | ((first | refine awp_skip ?_ | refine awp_exit ?_ | refine awp_reg ttok ?_ | (refine awp_draw ttok ?dr_calm ?_; (case dr_calm => decide +kernel)) | refine awp_condM ?_); simp (maxSteps := 4000000) only [↓reduceIte, Nat.reduceLT, Nat.reduceEqDiff, reduceCtorEq, Nat.reduceAdd, Nat.reduceMul, Int.reduceLE, Int.reduceLT, Int.reduceToNat, Nat.reduceLeDiff, Nat.reduceSub, Int.reduceEq, Nat.reduceBEq, List.replicate, List.set, evB, tyA, dfaD]; (repeat (with_reducible refine And.intro ?_ ?_; exact sdX)); (with_reducible first | refine awp_id ?_ | refine id_call ?_ | refine id_and ?_ | refine id_ex ?_ | refine id_all ?_ | refine id_nat ?_ | refine id_le ?_))))
  refine awp_loop (X := Nat) (fun i => mkS 46 [(1, .sl f (tri lb)), (2, .ptr 1000 0 0), (6, .own 2000 0 i), (7, i64 i)] [(1000, { sz := 4, rows := [[i64 lb.length, i64 st, .sl false (bos F), .sl false (iis N)]], flat := false }), (2000, { sz := 6, rows := prs (firstP g i) })]) (fun i => i ≤ 3) (fun i => 3 - i) 0 (Nat.zero_le _) (mkS_le rfl ?_ ?_) ?_
  · simp (maxSteps := 4000000) only [↓reduceIte, Nat.reduceLT, Nat.reduceEqDiff, reduceCtorEq, Nat.reduceAdd, Nat.reduceMul, Int.reduceLE, Int.reduceLT, Int.reduceToNat, Nat.reduceLeDiff, Nat.reduceSub, Int.reduceEq, Nat.reduceBEq, List.replicate, List.set, evB]
    try rfl
  · simp (maxSteps := 4000000) only [↓reduceIte, Nat.reduceLT, Nat.reduceEqDiff, reduceCtorEq, Nat.reduceAdd, Nat.reduceMul, Int.reduceLE, Int.reduceLT, Int.reduceToNat, Nat.reduceLeDiff, Nat.reduceSub, Int.reduceEq, Nat.reduceBEq, List.replicate, List.set, evB, hz]
    try rfl
  · intro i hi
    have hfl := firstP_len g i
    by_cases hlt : i < 3
    · have d1 : decide ((i : Int) < 3) = true := by simp; omega
      obtain ⟨i', hi'⟩ : ∃ i', i' = i + 1 := ⟨_, rfl⟩
      have hwi : IntKind.i64.wrap ((i : Int) + 1) = (i' : Int) := by rw [hi']; exact i64_in (by omega) (by omega)
      have hs := firstP_succ g i
      rw [← hi'] at hs
      have hx := hg (i : Int)
      generalize g (i : Int) = x at *
      have hof := hx.of f
      have hw := hx.wf
      have hfm := c_Formed hw.ok (by rw [hx.L]; exact hw.a) ⟨hw.n.1, by have := hw.n.2; omega⟩ 0 (by have := hw.s; rw [hx.s0] at this; exact this) x.F hw.F
      have hrow : [[i64 i, .sl false (duo x.A), i64 x.L, i64 ((0 : Nat) : Int), .sl false (bos x.F), .sl false (iis x.N)]] = prs [x] := by simp [prs, prC, hx.p, hx.s0]
      have hap : prs (firstP g i) ++ prs [x] = prs (firstP g i') := by rw [prs_app, hs]
      have k2 : ((x.L : Int) != (x.A.length : Int)) = false := by rw [hx.L]; simp
      have hl1 : (prs [x]).length = 1 := rfl
      have ht1 : (prs [x]).take 1 = prs [x] := rfl
      have hti : (prs (firstP g i)).take i = prs (firstP g i) := by rw [List.take_of_length_le]; rw [prs_len, hfl]; exact Nat.le_refl _
      (repeat (first | refine awp_seq ?_ | refine awp_block ?_ | ((first | refine awp_skip ?_ | refine awp_exit ?_ | refine awp_reg ttok ?_ | (refine awp_draw ttok ?dr_calm ?_; (case dr_calm => decide +kernel)) | refine awp_condM ?_); simp (maxSteps := 4000000) only [↓reduceIte, Nat.reduceLT, Nat.reduceEqDiff, reduceCtorEq, Nat.reduceAdd, Nat.reduceMul, Int.reduceLE, Int.reduceLT, Int.reduceToNat, Nat.reduceLeDiff, Nat.reduceSub, Int.reduceEq, Nat.reduceBEq, List.replicate, List.set, evB, tyA, d1]; (repeat (with_reducible refine And.intro ?_ ?_; exact sdX)); (with_reducible first | refine awp_id ?_ | refine id_call ?_ | refine id_and ?_ | refine id_ex ?_ | refine id_all ?_ | refine id_nat ?_ | refine id_le ?_))))
      refine callVC_mk fnok16 hof rfl ?_
      simp (maxSteps := 4000000) only [↓reduceIte, Nat.reduceLT, Nat.reduceEqDiff, reduceCtorEq, Nat.reduceAdd, Nat.reduceMul, Int.reduceLE, Int.reduceLT, Int.reduceToNat, Nat.reduceLeDiff, Nat.reduceSub, Int.reduceEq, Nat.reduceBEq, List.replicate, List.set, evB, tyA, dfaD]
      (repeat (with_reducible refine And.intro ?_ ?_; exact sdX))
      (repeat (first | refine awp_seq ?_ | refine awp_block ?_ | ((first | refine awp_skip ?_ | refine awp_exit ?_ | refine awp_reg ttok ?_ | (refine awp_draw ttok ?dr_calm ?_; (case dr_calm => decide +kernel)) | refine awp_condM ?_); simp (maxSteps := 4000000) only [↓reduceIte, Nat.reduceLT, Nat.reduceEqDiff, reduceCtorEq, Nat.reduceAdd, Nat.reduceMul, Int.reduceLE, Int.reduceLT, Int.reduceToNat, Nat.reduceLeDiff, Nat.reduceSub, Int.reduceEq, Nat.reduceBEq, List.replicate, List.set, evB, tyA, k1]; (repeat (with_reducible refine And.intro ?_ ?_; exact sdX)); (with_reducible first | refine awp_id ?_ | refine id_call ?_ | refine id_and ?_ | refine id_ex ?_ | refine id_all ?_ | refine id_nat ?_ | refine id_le ?_))))
      refine callVC_scal fnok17 hfm rfl ?_
      simp (maxSteps := 4000000) only [↓reduceIte, Nat.reduceLT, Nat.reduceEqDiff, reduceCtorEq, Nat.reduceAdd, Nat.reduceMul, Int.reduceLE, Int.reduceLT, Int.reduceToNat, Nat.reduceLeDiff, Nat.reduceSub, Int.reduceEq, Nat.reduceBEq, List.replicate, List.set, evB, tyA, duo_len, k2]
      (repeat (with_reducible refine And.intro ?_ ?_; exact sdX))
      (repeat (first | refine awp_seq ?_ | refine awp_block ?_ | ((first | refine awp_skip ?_ | refine awp_exit ?_ | refine awp_reg ttok ?_ | (refine awp_draw ttok ?dr_calm ?_; (case dr_calm => decide +kernel)) | refine awp_condM ?_); simp (maxSteps := 4000000) only [↓reduceIte, Nat.reduceLT, Nat.reduceEqDiff, reduceCtorEq, Nat.reduceAdd, Nat.reduceMul, Int.reduceLE, Int.reduceLT, Int.reduceToNat, Nat.reduceLeDiff, Nat.reduceSub, Int.reduceEq, Nat.reduceBEq, List.replicate, List.set, evB, tyA, duo_len, k2, hrow, hap, prs_len, prs_row, hfl, hl1, ht1, hti, hwi]; (repeat (with_reducible refine And.intro ?_ ?_; exact sdX)); (with_reducible first | refine awp_id ?_ | refine id_call ?_ | refine id_and ?_ | refine id_ex ?_ | refine id_all ?_ | refine id_nat ?_ | refine id_le ?_))))
      refine ⟨i', by omega, by omega, mkS_le rfl ?_ ?_⟩
      · simp (maxSteps := 4000000) only [↓reduceIte, Nat.reduceLT, Nat.reduceEqDiff, reduceCtorEq, Nat.reduceAdd, Nat.reduceMul, Int.reduceLE, Int.reduceLT, Int.reduceToNat, Nat.reduceLeDiff, Nat.reduceSub, Int.reduceEq, Nat.reduceBEq, List.replicate, List.set, evB, hi']
      · exact evX
    · have d1 : decide ((i : Int) < 3) = false := by simp; omega
      obtain rfl : i = 3 := by omega
      have hti : (prs (firstP g 3)).take 3 = prs (firstP g 3) := by rw [List.take_of_length_le]; rw [prs_len, hfl]; exact Nat.le_refl _
      (repeat (first | refine awp_seq ?_ | refine awp_block ?_ | ((first | refine awp_skip ?_ | refine awp_exit ?_ | refine awp_reg ttok ?_ | (refine awp_draw ttok ?dr_calm ?_; (case dr_calm => decide +kernel)) | refine awp_condM ?_); simp (maxSteps := 4000000) only [↓reduceIte, Nat.reduceLT, Nat.reduceEqDiff, reduceCtorEq, Nat.reduceAdd, Nat.reduceMul, Int.reduceLE, Int.reduceLT, Int.reduceToNat, Nat.reduceLeDiff, Nat.reduceSub, Int.reduceEq, Nat.reduceBEq, List.replicate, List.set, evB, tyA, d1]; (repeat (with_reducible refine And.intro ?_ ?_; exact sdX)); (with_reducible first | refine awp_id ?_ | refine id_call ?_ | refine id_and ?_ | refine id_ex ?_ | refine id_all ?_ | refine id_nat ?_ | refine id_le ?_))))
      refine awp_pure 4 (d := .own 2000 0 3) (d' := .sl false (prs (firstP g 3))) (ids := [2000]) (p := 3 ≤ (prs (firstP g 3)).length) evX (by simp (maxSteps := 4000000) only [↓reduceIte, Nat.reduceLT, Nat.reduceEqDiff, reduceCtorEq, Nat.reduceAdd, Nat.reduceMul, Int.reduceLE, Int.reduceLT, Int.reduceToNat, Nat.reduceLeDiff, Nat.reduceSub, Int.reduceEq, Nat.reduceBEq, List.replicate, List.set, evB, hti]) (by rw [prs_len, hfl]; exact Nat.le_refl _) ?_
      exact awp_ret (ends_plain (.inr rfl) rfl (by simp (maxSteps := 4000000) only [↓reduceIte, Nat.reduceLT, Nat.reduceEqDiff, reduceCtorEq, Nat.reduceAdd, Nat.reduceMul, Int.reduceLE, Int.reduceLT, Int.reduceToNat, Nat.reduceLeDiff, Nat.reduceSub, Int.reduceEq, Nat.reduceBEq, List.replicate, List.set, evB, St.pureSlot]))
theorem c_PeersNo (h : NOk lb.length k N) (st : Nat) (F : List Bool) (f : Bool) (hOf : Contract Try.prog 16 [dfaD lb.length st F N, .sl f (tri lb), i64 0] (.tup [noDfa, .sl true [], i64 13]) []) :
    Contract Try.prog 6 [dfaD lb.length st F N, .sl f (tri lb)] (.tup [.sl true [], bo false]) [] := by
  refine contract_of_awp (rs := [4, 5]) Try.func6 rfl Try.ntmps6 (by simp) rfl fun E => ?_
  have k1 : ((13 : Int) != 0) = true := rfl
  have d1 : decide ((0 : Int) < 3) = true := rfl
  (repeat (first | refine awp_seq ?_ | refine awp_block ?_ | ((first | refine awp_skip ?_ | refine awp_exit ?_ | refine awp_reg ttok ?_ | (refine awp_draw ttok ?dr_calm ?_; (case dr_calm => decide +kernel)) | refine awp_condM ?_); simp (maxSteps := 4000000) only [↓reduceIte, Nat.reduceLT, Nat.reduceEqDiff, reduceCtorEq, Nat.reduceAdd, Nat.reduceMul, Int.reduceLE, Int.reduceLT, Int.reduceToNat, Nat.reduceLeDiff, Nat.reduceSub, Int.reduceEq, Nat.reduceBEq, List.replicate, List.set, evB, tyA, dfaD]; (repeat (with_reducible refine And.intro ?_ ?_; exact sdX)); (with_reducible first | refine awp_id ?_ | refine id_call ?_ | refine id_and ?_ | refine id_ex ?_ | refine id_all ?_ | refine id_nat ?_ | refine id_le ?_))))
  refine awp_loop (X := Unit) (fun i => mkS 46 [(1, .sl f (tri lb)), (2, .ptr 1000 0 0), (7, i64 0)] [(1000, { sz := 4, rows := [[i64 lb.length, i64 st, .sl false (bos F), .sl false (iis N)]], flat := false })]) (fun i => True) (fun i => 0) () trivial (mkS_le rfl ?_ ?_) ?_
  · simp (maxSteps := 4000000) only [↓reduceIte, Nat.reduceLT, Nat.reduceEqDiff, reduceCtorEq, Nat.reduceAdd, Nat.reduceMul, Int.reduceLE, Int.reduceLT, Int.reduceToNat, Nat.reduceLeDiff, Nat.reduceSub, Int.reduceEq, Nat.reduceBEq, List.replicate, List.set, evB]
    try rfl
  · simp (maxSteps := 4000000) only [↓reduceIte, Nat.reduceLT, Nat.reduceEqDiff, reduceCtorEq, Nat.reduceAdd, Nat.reduceMul, Int.reduceLE, Int.reduceLT, Int.reduceToNat, Nat.reduceLeDiff, Nat.reduceSub, Int.reduceEq, Nat.reduceBEq, List.replicate, List.set, evB]
    try rfl
  · intro i hi
    (repeat (first | refine awp_seq ?_ | refine awp_block ?_ | ((first | refine awp_skip ?_ | refine awp_exit ?_ | refine awp_reg ttok ?_ | (refine awp_draw ttok ?dr_calm ?_; (case dr_calm => decide +kernel)) | refine awp_condM ?_); simp (maxSteps := 4000000) only [↓reduceIte, Nat.reduceLT, Nat.reduceEqDiff, reduceCtorEq, Nat.reduceAdd, Nat.reduceMul, Int.reduceLE, Int.reduceLT, Int.reduceToNat, Nat.reduceLeDiff, Nat.reduceSub, Int.reduceEq, Nat.reduceBEq, List.replicate, List.set, evB, tyA, d1]; (repeat (with_reducible refine And.intro ?_ ?_; exact sdX)); (with_reducible first | refine awp_id ?_ | refine id_call ?_ | refine id_and ?_ | refine id_ex ?_ | refine id_all ?_ | refine id_nat ?_ | refine id_le ?_))))
    refine callVC_mk fnok16 hOf rfl ?_
    unfold noDfa
    simp (maxSteps := 4000000) only [↓reduceIte, Nat.reduceLT, Nat.reduceEqDiff, reduceCtorEq, Nat.reduceAdd, Nat.reduceMul, Int.reduceLE, Int.reduceLT, Int.reduceToNat, Nat.reduceLeDiff, Nat.reduceSub, Int.reduceEq, Nat.reduceBEq, List.replicate, List.set, evB, tyA]
    (repeat (with_reducible refine And.intro ?_ ?_; exact sdX))
    (repeat (first | refine awp_seq ?_ | refine awp_block ?_ | ((first | refine awp_skip ?_ | refine awp_exit ?_ | refine awp_reg ttok ?_ | (refine awp_draw ttok ?dr_calm ?_; (case dr_calm => decide +kernel)) | refine awp_condM ?_); simp (maxSteps := 4000000) only [↓reduceIte, Nat.reduceLT, Nat.reduceEqDiff, reduceCtorEq, Nat.reduceAdd, Nat.reduceMul, Int.reduceLE, Int.reduceLT, Int.reduceToNat, Nat.reduceLeDiff, Nat.reduceSub, Int.reduceEq, Nat.reduceBEq, List.replicate, List.set, evB, tyA, k1]; (repeat (with_reducible refine And.intro ?_ ?_; exact sdX)); (with_reducible first | refine awp_id ?_ | refine id_call ?_ | refine id_and ?_ | refine id_ex ?_ | refine id_all ?_ | refine id_nat ?_ | refine id_le ?_))))
    exact awp_ret (ends_plain (.inr rfl) rfl evX)
end
section
variable {k : Nat} {N : List (List Int)} {lb : List Lab}
end
def N24 : List (List Int) := [[1], [-1]]
def F24 : List Bool := [false, true]
def lb24 : List Lab := [(0, 1, 0)]
def x24 (d : Int) (p : Int) : Pr := ⟨p, [(d, 0)], 1, 0, F24, N24⟩
theorem nOk24 : NOk 1 2 N24 := ⟨rfl, by decide⟩
theorem wf24 (d p : Int) : PWf (x24 d p) := ⟨nOk24, rfl, (show 1 ≤ N24.length ∧ N24.length ≤ 1024 by decide), (show 0 < N24.length by decide), (show 1 ≤ 1000 by decide)⟩
theorem goodA24 : GoodA (x24 1 0).A lb24 2 := fun j hj => by
  have hj0 : j = 0 := by
    have : (x24 1 0).A.length = 1 := rfl
    omega
  subst hj0
  exact ⟨1, 0, 1, rfl, by decide, by decide, rfl⟩
theorem first_ok (n : Nat) (s : Int) : ImgB n 0 (firstI n s) :=
  ⟨by simp [firstI], by simp [firstI], ⟨by simp [firstI], by simp [firstI]⟩, fun x hx => by
    have := List.eq_of_mem_replicate (show x ∈ List.replicate n ((0 : Int), ([] : List Int)) from hx)
    subst this; simp, fun x hx => by
    have := List.eq_of_mem_replicate (show x ∈ List.replicate n (0 : Int) from hx)
    subst this; simp⟩
theorem v39 : applyI (x24 1 0) lb24 (firstI 2 0) 0 = some ⟨1, 1, [(0, []), (1, [0])], [0, 0]⟩ := by rfl
set_option maxHeartbeats 16000000 in
theorem c_awake39 : Contract Try.prog 7 [] (bo true) [] := by
  refine contract_of_awp (rs := [0]) Try.func7 rfl Try.ntmps7 (by simp) rfl fun E => ?_
  have hF := c_PrFirst 2 0 2 (by decide) (by decide)
  have hAp := c_Apply2 false (x24 1 0) (wf24 1 0) lb24 goodA24 (firstI 2 0) ((first_ok 2 0).ok (by decide)) 0
  rw [v39] at hAp
  have k1 : ((1 : Int) == 1) = true := rfl
  have k2 : (((2 : Nat) : Int) == 2) = true := rfl
  have k3 : (((1 : Nat) : Int) == 1) = true := rfl
  have hl0 : (srs [(0, []), (1, [0])]).length = 2 := rfl
  have hg1 : (srs [(0, []), (1, [0])]).getD 1 [] = [i64 1, .sl false (ints [0])] := rfl
  have hl1 : (ints [0]).length = 1 := rfl
  (repeat (first | refine awp_seq ?_ | refine awp_block ?_ | ((first | refine awp_skip ?_ | refine awp_exit ?_ | refine awp_reg ttok ?_ | (refine awp_draw ttok ?dr_calm ?_; (case dr_calm => decide +kernel)) | refine awp_condM ?_); simp (maxSteps := 4000000) only [↓reduceIte, Nat.reduceLT, Nat.reduceEqDiff, reduceCtorEq, Nat.reduceAdd, Nat.reduceMul, Int.reduceLE, Int.reduceLT, Int.reduceToNat, Nat.reduceLeDiff, Nat.reduceSub, Int.reduceEq, Nat.reduceBEq, List.replicate, List.set, evB, tyA]; (repeat (with_reducible refine And.intro ?_ ?_; exact sdX)); (with_reducible first | refine awp_id ?_ | refine id_call ?_ | refine id_and ?_ | refine id_ex ?_ | refine id_all ?_ | refine id_nat ?_ | refine id_le ?_))))
  refine awp_drawS ttok (mkS 56 [(3, .ptr 4007 0 0), (4, bo true)] [(4007, { sz := 4, rows := [imC ⟨1, 1, [(0, []), (1, [0])], [0, 0]⟩], flat := false })]) (.nd 2 7 .lf (.nd 3 7 .lf .lf)) [((0, none) :: (1, none) :: (7, some [0, 1]) :: (2, some [0, 1]) :: (3, some []) :: (4, none) :: (5, none) :: (6, none) :: (8, some [6]) :: (9, none) :: []), ((0, none) :: (1, none) :: (2, some [0, 1]) :: (7, some [0, 1]) :: (3, some []) :: (4, none) :: (5, none) :: (6, none) :: (8, some [6]) :: (9, none) :: []), ((0, none) :: (1, none) :: (2, some [0, 1]) :: (3, some []) :: (4, none) :: (5, none) :: (6, none) :: (7, some [4, 5, 6]) :: (8, some [6]) :: (9, none) :: [])] [0, 1, 2, 3, 4, 5, 6, 7, 8, 9] [0, 1, 2, 3, 4, 5, 6, 7, 8, 9] [0, 1, 2, 3, 4, 5, 7, 8, 6, 9] (by decide +kernel) ?_ (fun O hO => ?_)
  rotate_left
  · simp only [OpsAre, Nat.reduceAdd, and_true] at hO
    simp only [aopsS_cons, aopsS_nil, and_true]
    repeat' apply And.intro
    all_goals
      simp (maxSteps := 4000000) only [↓reduceIte, Nat.reduceLT, Nat.reduceEqDiff, reduceCtorEq, Nat.reduceAdd, Nat.reduceMul, Int.reduceLE, Int.reduceLT, Int.reduceToNat, Nat.reduceLeDiff, Nat.reduceSub, Int.reduceEq, Nat.reduceBEq, List.replicate, List.set, evB, tyA, hO]; (repeat (with_reducible refine And.intro ?_ ?_; exact sdX))
      refine callVC_mk fnok8 hF rfl ?_
      simp (maxSteps := 4000000) only [↓reduceIte, Nat.reduceLT, Nat.reduceEqDiff, reduceCtorEq, Nat.reduceAdd, Nat.reduceMul, Int.reduceLE, Int.reduceLT, Int.reduceToNat, Nat.reduceLeDiff, Nat.reduceSub, Int.reduceEq, Nat.reduceBEq, List.replicate, List.set, evB, tyA, hO]
      (repeat (with_reducible refine And.intro ?_ ?_; exact sdX))
      refine callVC_mk fnok9 hAp rfl ?_
      simp (maxSteps := 4000000) only [↓reduceIte, Nat.reduceLT, Nat.reduceEqDiff, reduceCtorEq, Nat.reduceAdd, Nat.reduceMul, Int.reduceLE, Int.reduceLT, Int.reduceToNat, Nat.reduceLeDiff, Nat.reduceSub, Int.reduceEq, Nat.reduceBEq, List.replicate, List.set, evB, tyA, hO, apD]
      (repeat (with_reducible refine And.intro ?_ ?_; exact sdX))
      refine mkS_le rfl ?_ ?_
      · exact evX
      · exact evX
  (repeat (first | refine awp_seq ?_ | refine awp_block ?_ | ((first | refine awp_skip ?_ | refine awp_exit ?_ | refine awp_reg ttok ?_ | (refine awp_draw ttok ?dr_calm ?_; (case dr_calm => decide +kernel)) | refine awp_condM ?_); simp (maxSteps := 4000000) only [↓reduceIte, Nat.reduceLT, Nat.reduceEqDiff, reduceCtorEq, Nat.reduceAdd, Nat.reduceMul, Int.reduceLE, Int.reduceLT, Int.reduceToNat, Nat.reduceLeDiff, Nat.reduceSub, Int.reduceEq, Nat.reduceBEq, List.replicate, List.set, evB, tyA, k1, k2, k3, hl0, hg1, hl1]; (repeat (with_reducible refine And.intro ?_ ?_; exact sdX)); (with_reducible first | refine awp_id ?_ | refine id_call ?_ | refine id_and ?_ | refine id_ex ?_ | refine id_all ?_ | refine id_nat ?_ | refine id_le ?_))))
  exact awp_ret (ends_plain (.inr rfl) rfl evX)
theorem tri_set (l : List (Int × Int × Int)) (i : Nat) (x : Int × Int × Int) : (tri l).set i [i64 x.1, i64 x.2.1, i64 x.2.2] = tri (l.set i x) := by simp [tri, List.map_set]
set_option maxRecDepth 20000 in
set_option maxHeartbeats 32000000 in
theorem c_ProcReplays (f fs : Bool) (l : List (Int × Int × Int)) (z0 z1 z2 : Int) (s : List Int) (hl : l.length ≤ 9223372036854775807) (hs : s.length ≤ 9223372036854775807) :
    Contract Try.prog 4 [.sl f (tri l), .agg [i64 z0, i64 z1, i64 z2], .sl fs (ints s)] (bo true) [] := by
  refine contract_of_awp (rs := [6]) Try.func4 rfl Try.ntmps4 (by simp) rfl fun E => ?_
  have hAny := c_RAny f l (z0.fdiv (2 ^ min 4 IntKind.i64.bits)) z0 z1 hl
  obtain ⟨fin, hfin⟩ : ∃ fin, z0.fdiv (2 ^ min 4 IntKind.i64.bits) = fin := ⟨_, rfl⟩
  rw [hfin] at hAny
  have hL := labD_le z0
  rw [← labP_len] at hL
  have hgl := goodL_labP z0
  have hk := numD_le z1
  have hst := startD_lt z1
  have hok := nextD_ok (L := (labP z0).length) hk.1 l
  have hF := finD_len fin (numD z1)
  generalize nextD (labP z0).length (numD z1) l = N at *
  generalize labP z0 = lb at *
  generalize finD fin (numD z1) = F at *
  generalize numD z1 = k at *
  generalize startD z1 = st at *
  obtain ⟨C, hC, hCw0⟩ := and_low z2 255 (by decide)
  have hCw : IntKind.i64.wrap ((BitVec.ofInt IntKind.i64.bits z2 &&& BitVec.ofInt IntKind.i64.bits 255).toNat : Int) = (C : Int) := hCw0
  obtain ⟨pt, hpt, hptw⟩ : ∃ pt : Nat, pt < 3 ∧ (C : Int).tmod 3 = (pt : Int) := ⟨C % 3, Nat.mod_lt _ (by decide), by rw [Int.tmod_eq_emod_of_nonneg (by omega)]; omega⟩
  obtain ⟨C8, hC8, hC8w0⟩ := and_low (z2.fdiv (2 ^ min 8 IntKind.i64.bits)) 255 (by decide)
  have hC8w : IntKind.i64.wrap ((BitVec.ofInt IntKind.i64.bits (z2.fdiv (2 ^ min 8 IntKind.i64.bits)) &&& BitVec.ofInt IntKind.i64.bits 255).toNat : Int) = (C8 : Int) := hC8w0
  obtain ⟨C16, hC16, hC16w0⟩ := and_low (z2.fdiv (2 ^ min 16 IntKind.i64.bits)) 3 (by decide)
  have hC16w : IntKind.i64.wrap ((BitVec.ofInt IntKind.i64.bits (z2.fdiv (2 ^ min 16 IntKind.i64.bits)) &&& BitVec.ofInt IntKind.i64.bits 3).toNat : Int) = (C16 : Int) := hC16w0
  obtain ⟨C18, hC18, hC18w0⟩ := and_low (z2.fdiv (2 ^ min 18 IntKind.i64.bits)) 7 (by decide)
  have hC18w : IntKind.i64.wrap ((BitVec.ofInt IntKind.i64.bits (z2.fdiv (2 ^ min 18 IntKind.i64.bits)) &&& BitVec.ofInt IntKind.i64.bits 7).toNat : Int) = (C18 : Int) := hC18w0
  (repeat (first | refine awp_seq ?_ | refine awp_block ?_ | ((first | refine awp_skip ?_ | refine awp_exit ?_ | refine awp_reg ttok ?_ | (refine awp_draw ttok ?dr_calm ?_; (case dr_calm => decide +kernel)) | refine awp_condM ?_); simp (maxSteps := 4000000) only [↓reduceIte, Nat.reduceLT, Nat.reduceEqDiff, reduceCtorEq, Nat.reduceAdd, Nat.reduceMul, Int.reduceLE, Int.reduceLT, Int.reduceToNat, Nat.reduceLeDiff, Nat.reduceSub, Int.reduceEq, Nat.reduceBEq, List.replicate, List.set, evB, tyA, hfin]; (repeat (with_reducible refine And.intro ?_ ?_; exact sdX)); (with_reducible first | refine awp_id ?_ | refine id_call ?_ | refine id_and ?_ | refine id_ex ?_ | refine id_all ?_ | refine id_nat ?_ | refine id_le ?_))))
  refine callVC_mk fnok5 hAny rfl ?_
  simp (maxSteps := 4000000) only [↓reduceIte, Nat.reduceLT, Nat.reduceEqDiff, reduceCtorEq, Nat.reduceAdd, Nat.reduceMul, Int.reduceLE, Int.reduceLT, Int.reduceToNat, Nat.reduceLeDiff, Nat.reduceSub, Int.reduceEq, Nat.reduceBEq, List.replicate, List.set, evB, tyA, dfaD]
  (repeat (with_reducible refine And.intro ?_ ?_; exact sdX))
  (repeat (first | refine awp_seq ?_ | refine awp_block ?_ | ((first | refine awp_skip ?_ | refine awp_exit ?_ | refine awp_reg ttok ?_ | (refine awp_draw ttok ?dr_calm ?_; (case dr_calm => decide +kernel)) | refine awp_condM ?_); simp (maxSteps := 4000000) only [↓reduceIte, Nat.reduceLT, Nat.reduceEqDiff, reduceCtorEq, Nat.reduceAdd, Nat.reduceMul, Int.reduceLE, Int.reduceLT, Int.reduceToNat, Nat.reduceLeDiff, Nat.reduceSub, Int.reduceEq, Nat.reduceBEq, List.replicate, List.set, evB, tyA]; (repeat (with_reducible refine And.intro ?_ ?_; exact sdX)); (with_reducible first | refine awp_id ?_ | refine id_call ?_ | refine id_and ?_ | refine id_ex ?_ | refine id_all ?_ | refine id_nat ?_ | refine id_le ?_))))
  cases hv : (liveL F N).getD st false
  · rcases hide_says hok (by omega) (by omega) st hst F hF 0 with ⟨h0, _⟩ | ⟨_, hOf⟩
    · rw [hv] at h0; cases h0
    · refine callVC_mk fnok6 (c_PeersNo hok st F false (hOf false)) rfl ?_
      simp (maxSteps := 4000000) only [↓reduceIte, Nat.reduceLT, Nat.reduceEqDiff, reduceCtorEq, Nat.reduceAdd, Nat.reduceMul, Int.reduceLE, Int.reduceLT, Int.reduceToNat, Nat.reduceLeDiff, Nat.reduceSub, Int.reduceEq, Nat.reduceBEq, List.replicate, List.set, evB, tyA]
      (repeat (with_reducible refine And.intro ?_ ?_; exact sdX))
      (repeat (first | refine awp_seq ?_ | refine awp_block ?_ | ((first | refine awp_skip ?_ | refine awp_exit ?_ | refine awp_reg ttok ?_ | (refine awp_draw ttok ?dr_calm ?_; (case dr_calm => decide +kernel)) | refine awp_condM ?_); simp (maxSteps := 4000000) only [↓reduceIte, Nat.reduceLT, Nat.reduceEqDiff, reduceCtorEq, Nat.reduceAdd, Nat.reduceMul, Int.reduceLE, Int.reduceLT, Int.reduceToNat, Nat.reduceLeDiff, Nat.reduceSub, Int.reduceEq, Nat.reduceBEq, List.replicate, List.set, evB, tyA]; (repeat (with_reducible refine And.intro ?_ ?_; exact sdX)); (with_reducible first | refine awp_id ?_ | refine id_call ?_ | refine id_and ?_ | refine id_ex ?_ | refine id_all ?_ | refine id_nat ?_ | refine id_le ?_))))
      refine callVC_scal fnok7 c_awake39 rfl ?_
      simp (maxSteps := 4000000) only [↓reduceIte, Nat.reduceLT, Nat.reduceEqDiff, reduceCtorEq, Nat.reduceAdd, Nat.reduceMul, Int.reduceLE, Int.reduceLT, Int.reduceToNat, Nat.reduceLeDiff, Nat.reduceSub, Int.reduceEq, Nat.reduceBEq, List.replicate, List.set, evB, tyA]
      (repeat (with_reducible refine And.intro ?_ ?_; exact sdX))
      (repeat (first | refine awp_seq ?_ | refine awp_block ?_ | ((first | refine awp_skip ?_ | refine awp_exit ?_ | refine awp_reg ttok ?_ | (refine awp_draw ttok ?dr_calm ?_; (case dr_calm => decide +kernel)) | refine awp_condM ?_); simp (maxSteps := 4000000) only [↓reduceIte, Nat.reduceLT, Nat.reduceEqDiff, reduceCtorEq, Nat.reduceAdd, Nat.reduceMul, Int.reduceLE, Int.reduceLT, Int.reduceToNat, Nat.reduceLeDiff, Nat.reduceSub, Int.reduceEq, Nat.reduceBEq, List.replicate, List.set, evB, tyA]; (repeat (with_reducible refine And.intro ?_ ?_; exact sdX)); (with_reducible first | refine awp_id ?_ | refine id_call ?_ | refine id_and ?_ | refine id_ex ?_ | refine id_all ?_ | refine id_nat ?_ | refine id_le ?_))))
      exact awp_ret (ends_plain (.inr rfl) rfl evX)
  obtain ⟨g, hg⟩ := peers_pick hok (by omega) (by omega) st hst F hF hv
  have hP := c_Peers hok st F false hg
  refine callVC_mk fnok6 hP rfl ?_
  simp (maxSteps := 4000000) only [↓reduceIte, Nat.reduceLT, Nat.reduceEqDiff, reduceCtorEq, Nat.reduceAdd, Nat.reduceMul, Int.reduceLE, Int.reduceLT, Int.reduceToNat, Nat.reduceLeDiff, Nat.reduceSub, Int.reduceEq, Nat.reduceBEq, List.replicate, List.set, evB, tyA]
  (repeat (with_reducible refine And.intro ?_ ?_; exact sdX))
  have hgp := prs_get (g := g) hpt
  have hx := hg (pt : Int)
  have hl3 : (prs (firstP g 3)).length = 3 := by rw [prs_len, firstP_len]
  generalize g (pt : Int) = x at *
  generalize prs (firstP g 3) = PP at *
  have hw := hx.wf
  have hAl : x.A.length ≤ 4 := by rw [hx.A]; exact Nat.le_trans (acts_len _ _ _) hL
  have hA := goodA_acts hgl (pt : Int) lb.length (Nat.le_refl _)
  rw [← hx.A] at hA
  have hFi := c_PrFirst 3 (x.st : Int) 3 (by decide) (by decide)
  have hF0 := c_PrFirst (-1) 0 0 (by decide) (by decide)
  have hF16 := c_PrFirst 99 0 16 (by decide) (by decide)
  have hn0 := Noted.nil x lb (firstI 3 x.st) (first_ok 3 x.st)
  have hz0 : (srs (firstI 0 0).S).length = 0 := rfl
  have hz16 : (srs (firstI 16 0).S).length = 16 := by rw [srs_len]; simp [firstI]
  have hb0 := first_ok 3 (x.st : Int)
  generalize firstI 3 (x.st : Int) = fi at *
  (repeat (first | refine awp_seq ?_ | refine awp_block ?_ | ((first | refine awp_skip ?_ | refine awp_exit ?_ | refine awp_reg ttok ?_ | (refine awp_draw ttok ?dr_calm ?_; (case dr_calm => decide +kernel)) | refine awp_condM ?_); simp (maxSteps := 4000000) only [↓reduceIte, Nat.reduceLT, Nat.reduceEqDiff, reduceCtorEq, Nat.reduceAdd, Nat.reduceMul, Int.reduceLE, Int.reduceLT, Int.reduceToNat, Nat.reduceLeDiff, Nat.reduceSub, Int.reduceEq, Nat.reduceBEq, List.replicate, List.set, evB, tyA, hCw, hptw, hgp, hl3]; (repeat (with_reducible refine And.intro ?_ ?_; exact sdX)); (with_reducible first | refine awp_id ?_ | refine id_call ?_ | refine id_and ?_ | refine id_ex ?_ | refine id_all ?_ | refine id_nat ?_ | refine id_le ?_))))
  refine callVC_mk fnok8 hFi rfl ?_
  simp (maxSteps := 4000000) only [↓reduceIte, Nat.reduceLT, Nat.reduceEqDiff, reduceCtorEq, Nat.reduceAdd, Nat.reduceMul, Int.reduceLE, Int.reduceLT, Int.reduceToNat, Nat.reduceLeDiff, Nat.reduceSub, Int.reduceEq, Nat.reduceBEq, List.replicate, List.set, evB, tyA]
  (repeat (with_reducible refine And.intro ?_ ?_; exact sdX))
  (repeat (first | refine awp_seq ?_ | refine awp_block ?_ | ((first | refine awp_skip ?_ | refine awp_exit ?_ | refine awp_reg ttok ?_ | (refine awp_draw ttok ?dr_calm ?_; (case dr_calm => decide +kernel)) | refine awp_condM ?_); simp (maxSteps := 4000000) only [↓reduceIte, Nat.reduceLT, Nat.reduceEqDiff, reduceCtorEq, Nat.reduceAdd, Nat.reduceMul, Int.reduceLE, Int.reduceLT, Int.reduceToNat, Nat.reduceLeDiff, Nat.reduceSub, Int.reduceEq, Nat.reduceBEq, List.replicate, List.set, evB, tyA]; (repeat (with_reducible refine And.intro ?_ ?_; exact sdX)); (with_reducible first | refine awp_id ?_ | refine id_call ?_ | refine id_and ?_ | refine id_ex ?_ | refine id_all ?_ | refine id_nat ?_ | refine id_le ?_))))
  have hSm := c_rSame false false false false fi.q fi.s fi.S fi.K fi.q fi.s fi.S fi.K (by rw [hb0.S]; decide) (by rw [hb0.K]; decide) (fun y hy => by have := (hb0.c y hy).2.2; omega)
  rw [sameI_refl] at hSm
  have k00 : (((0 : Nat) : Int) == 0) = true := rfl
  have k16 : (((16 : Nat) : Int) == 16) = true := rfl
  refine awp_joinX (X := Img × List (Int × Int × Int)) 0 (fun q => mkS 174 [(4, .ptr 1000 0 0), (8, .sl false (tri lb)), (11, .ptr 6007 0 0), (12, .ptr 7004 0 0), (14, .own 8001 0 q.2.length)] [(1000, { sz := 3, rows := [[i64 z0, i64 z1, i64 z2]], flat := false }), (6007, { sz := 6, rows := [prC x], flat := false }), (7004, { sz := 4, rows := [imC fi], flat := false }), (8001, { sz := 3, rows := tri q.2 })]) (fun q => Noted x lb fi q.2 q.1 ∧ q.2.length ≤ 20) ?_ ?_
  rotate_left
  · refine awp_loop (X := Nat × Img × List (Int × Int × Int)) (fun q => mkS 174 [(2, .sl fs (ints s)), (4, .ptr 1000 0 0), (8, .sl false (tri lb)), (11, .ptr 6007 0 0), (12, .ptr 7004 0 0), (13, .ptr 8002 0 0), (14, .own 8001 0 q.2.2.length), (15, i64 q.1)]
        [(1000, { sz := 3, rows := [[i64 z0, i64 z1, i64 z2]], flat := false }), (6007, { sz := 6, rows := [prC x], flat := false }), (7004, { sz := 4, rows := [imC fi], flat := false }), (8002, { sz := 4, rows := [imC q.2.1], flat := false }), (8001, { sz := 3, rows := tri q.2.2 })])
      (fun q => q.1 ≤ 20 ∧ q.1 ≤ s.length ∧ q.2.2.length ≤ q.1 ∧ Noted x lb fi q.2.2 q.2.1) (fun q => 20 - q.1) (0, fi, []) ⟨Nat.zero_le _, Nat.zero_le _, Nat.le_refl _, hn0⟩ (mkS_le rfl ?_ ?_) ?_
    · simp (maxSteps := 4000000) only [↓reduceIte, Nat.reduceLT, Nat.reduceEqDiff, reduceCtorEq, Nat.reduceAdd, Nat.reduceMul, Int.reduceLE, Int.reduceLT, Int.reduceToNat, Nat.reduceLeDiff, Nat.reduceSub, Int.reduceEq, Nat.reduceBEq, List.replicate, List.set, evB]
      try rfl
    · simp (maxSteps := 4000000) only [↓reduceIte, Nat.reduceLT, Nat.reduceEqDiff, reduceCtorEq, Nat.reduceAdd, Nat.reduceMul, Int.reduceLE, Int.reduceLT, Int.reduceToNat, Nat.reduceLeDiff, Nat.reduceSub, Int.reduceEq, Nat.reduceBEq, List.replicate, List.set, evB]
      try rfl
    · rintro ⟨j, y, nt⟩ ⟨hj, hjs, hnl, hn⟩
      simp only at hj hjs hnl hn
      have hyB := hn.b
      have hyq := hn.q
      by_cases hlt : j < s.length ∧ j < 20
      · have d1 : decide ((j : Int) < (s.length : Int)) = true := by simp; omega
        have d2 : decide ((j : Int) < 20) = true := by simp; omega
        have hwi : IntKind.i64.wrap ((j : Int) + 1) = ((j + 1 : Nat) : Int) := i64_in (by omega) (by omega)
        have gs := ints_get hlt.1
        obtain ⟨a, ha, haw0⟩ := and_low (s.getD j 0) 3 (by decide)
        have haw : IntKind.i64.wrap ((BitVec.ofInt IntKind.i64.bits (s.getD j 0) &&& BitVec.ofInt IntKind.i64.bits 3).toNat : Int) = (a : Int) := haw0
        generalize s.getD j 0 = sj at *
        have hAp := c_Apply3 false x hw lb hA y (hyB.ok (by omega)) (a : Int)
        have hsn := fun y' => hn.snoc hw (a := (a : Int)) (y := y')
        have hap := fun y' => applied hw (lb := lb) (i := y) (a := (a : Int)) (y := y')
        generalize applyI x lb y (a : Int) = ap at *
        (repeat (first | refine awp_seq ?_ | refine awp_block ?_ | ((first | refine awp_skip ?_ | refine awp_exit ?_ | refine awp_reg ttok ?_ | (refine awp_draw ttok ?dr_calm ?_; (case dr_calm => decide +kernel)) | refine awp_condM ?_); simp (maxSteps := 4000000) only [↓reduceIte, Nat.reduceLT, Nat.reduceEqDiff, reduceCtorEq, Nat.reduceAdd, Nat.reduceMul, Int.reduceLE, Int.reduceLT, Int.reduceToNat, Nat.reduceLeDiff, Nat.reduceSub, Int.reduceEq, Nat.reduceBEq, List.replicate, List.set, evB, tyA, d1, d2, ints_len]; (repeat (with_reducible refine And.intro ?_ ?_; exact sdX)); (with_reducible first | refine awp_id ?_ | refine id_call ?_ | refine id_and ?_ | refine id_ex ?_ | refine id_all ?_ | refine id_nat ?_ | refine id_le ?_))))
        cases ap with
        | none =>
          refine awp_drawS ttok (mkS 174 [(2, .sl fs (ints s)), (4, .ptr 1000 0 0), (8, .sl false (tri lb)), (11, .ptr 6007 0 0), (12, .ptr 7004 0 0), (13, .ptr 8002 0 0), (14, .own 8001 0 nt.length), (15, i64 j), (16, .ptr 12012 0 0), (17, bo false)] [(1000, { sz := 3, rows := [[i64 z0, i64 z1, i64 z2]], flat := false }), (6007, { sz := 6, rows := [prC x], flat := false }), (7004, { sz := 4, rows := [imC fi], flat := false }), (8002, { sz := 4, rows := [imC y], flat := false }), (8001, { sz := 3, rows := tri nt }), (12012, { sz := 4, rows := [imC y], flat := false })]) (.nd 8 12 .lf .lf) [((0, none) :: (1, none) :: (2, none) :: (3, none) :: (4, none) :: (5, none) :: (6, none) :: (7, none) :: (12, some [0, 1, 2, 3, 4, 5, 6, 7]) :: (8, some []) :: (9, none) :: (10, none) :: (11, none) :: (13, some [11]) :: (14, none) :: []), ((0, none) :: (1, none) :: (2, none) :: (3, none) :: (4, none) :: (5, none) :: (6, none) :: (7, none) :: (8, some []) :: (9, none) :: (10, none) :: (11, none) :: (12, some [9, 10, 11]) :: (13, some [11]) :: (14, none) :: [])] [0, 1, 2, 3, 4, 5, 6, 7, 8, 9, 10, 11, 12, 13, 14] [0, 1, 2, 3, 4, 5, 6, 7, 8, 9, 10, 11, 12, 13, 14] [0, 1, 2, 3, 4, 5, 6, 7, 8, 9, 10, 12, 13, 11, 14] (by decide +kernel) ?_ (fun O hO => ?_)
          rotate_left
          · simp only [OpsAre, Nat.reduceAdd, and_true] at hO
            simp only [aopsS_cons, aopsS_nil, and_true]
            repeat' apply And.intro
            all_goals
              simp (maxSteps := 4000000) only [↓reduceIte, Nat.reduceLT, Nat.reduceEqDiff, reduceCtorEq, Nat.reduceAdd, Nat.reduceMul, Int.reduceLE, Int.reduceLT, Int.reduceToNat, Nat.reduceLeDiff, Nat.reduceSub, Int.reduceEq, Nat.reduceBEq, List.replicate, List.set, evB, tyA, hO, gs, ints_len, haw]; (repeat (with_reducible refine And.intro ?_ ?_; exact sdX))
              refine callVC_mk fnok9 hAp rfl ?_
              simp (maxSteps := 4000000) only [↓reduceIte, Nat.reduceLT, Nat.reduceEqDiff, reduceCtorEq, Nat.reduceAdd, Nat.reduceMul, Int.reduceLE, Int.reduceLT, Int.reduceToNat, Nat.reduceLeDiff, Nat.reduceSub, Int.reduceEq, Nat.reduceBEq, List.replicate, List.set, evB, tyA, hO, apD]
              (repeat (with_reducible refine And.intro ?_ ?_; exact sdX))
              refine mkS_le rfl ?_ ?_
              · exact evX
              · exact evX
          (repeat (first | refine awp_seq ?_ | refine awp_block ?_ | ((first | refine awp_skip ?_ | refine awp_exit ?_ | refine awp_reg ttok ?_ | (refine awp_draw ttok ?dr_calm ?_; (case dr_calm => decide +kernel)) | refine awp_condM ?_); simp (maxSteps := 4000000) only [↓reduceIte, Nat.reduceLT, Nat.reduceEqDiff, reduceCtorEq, Nat.reduceAdd, Nat.reduceMul, Int.reduceLE, Int.reduceLT, Int.reduceToNat, Nat.reduceLeDiff, Nat.reduceSub, Int.reduceEq, Nat.reduceBEq, List.replicate, List.set, evB, tyA, hwi]; (repeat (with_reducible refine And.intro ?_ ?_; exact sdX)); (with_reducible first | refine awp_id ?_ | refine id_call ?_ | refine id_and ?_ | refine id_ex ?_ | refine id_all ?_ | refine id_nat ?_ | refine id_le ?_))))
          refine ⟨(j + 1, y, nt), ⟨by simp only; omega, by simp only; omega, by simp only; omega, hn⟩, by simp only; omega, mkS_le rfl ?_ ?_⟩
          · exact evX
          · exact evX
        | some y' =>
          have hn2 := hsn y' rfl
          have hq2 := (hap y' rfl).1
          have hNo := c_Note y' (a : Int) (by omega)
          have hone : [[i64 (y'.q - 1), i64 (a : Int), i64 y'.s]] = tri [(y'.q - 1, (a : Int), y'.s)] := rfl
          have hr3 : ∀ m : List Lab, (∀ row ∈ tri m, row.length = 3) = True := fun m => by
            simp only [tri, List.mem_map, eq_iff_iff, iff_true]
            rintro row ⟨x, _, rfl⟩; rfl
          have hta : tri nt ++ tri [(y'.q - 1, (a : Int), y'.s)] = tri (nt ++ [(y'.q - 1, (a : Int), y'.s)]) := by simp [tri]
          have htk : List.take nt.length nt = nt := List.take_length
          refine awp_drawS ttok (mkS 174 [(2, .sl fs (ints s)), (4, .ptr 1000 0 0), (8, .sl false (tri lb)), (11, .ptr 6007 0 0), (12, .ptr 7004 0 0), (13, .ptr 8002 0 0), (14, .own 8001 0 nt.length), (15, i64 j), (16, .ptr 12012 0 0), (17, bo true)] [(1000, { sz := 3, rows := [[i64 z0, i64 z1, i64 z2]], flat := false }), (6007, { sz := 6, rows := [prC x], flat := false }), (7004, { sz := 4, rows := [imC fi], flat := false }), (8002, { sz := 4, rows := [imC y], flat := false }), (8001, { sz := 3, rows := tri nt }), (12012, { sz := 4, rows := [imC y'], flat := false })]) (.nd 8 12 .lf .lf) [((0, none) :: (1, none) :: (2, none) :: (3, none) :: (4, none) :: (5, none) :: (6, none) :: (7, none) :: (12, some [0, 1, 2, 3, 4, 5, 6, 7]) :: (8, some []) :: (9, none) :: (10, none) :: (11, none) :: (13, some [11]) :: (14, none) :: []), ((0, none) :: (1, none) :: (2, none) :: (3, none) :: (4, none) :: (5, none) :: (6, none) :: (7, none) :: (8, some []) :: (9, none) :: (10, none) :: (11, none) :: (12, some [9, 10, 11]) :: (13, some [11]) :: (14, none) :: [])] [0, 1, 2, 3, 4, 5, 6, 7, 8, 9, 10, 11, 12, 13, 14] [0, 1, 2, 3, 4, 5, 6, 7, 8, 9, 10, 11, 12, 13, 14] [0, 1, 2, 3, 4, 5, 6, 7, 8, 9, 10, 12, 13, 11, 14] (by decide +kernel) ?_ (fun O hO => ?_)
          rotate_left
          · simp only [OpsAre, Nat.reduceAdd, and_true] at hO
            simp only [aopsS_cons, aopsS_nil, and_true]
            repeat' apply And.intro
            all_goals
              simp (maxSteps := 4000000) only [↓reduceIte, Nat.reduceLT, Nat.reduceEqDiff, reduceCtorEq, Nat.reduceAdd, Nat.reduceMul, Int.reduceLE, Int.reduceLT, Int.reduceToNat, Nat.reduceLeDiff, Nat.reduceSub, Int.reduceEq, Nat.reduceBEq, List.replicate, List.set, evB, tyA, hO, gs, ints_len, haw]; (repeat (with_reducible refine And.intro ?_ ?_; exact sdX))
              refine callVC_mk fnok9 hAp rfl ?_
              simp (maxSteps := 4000000) only [↓reduceIte, Nat.reduceLT, Nat.reduceEqDiff, reduceCtorEq, Nat.reduceAdd, Nat.reduceMul, Int.reduceLE, Int.reduceLT, Int.reduceToNat, Nat.reduceLeDiff, Nat.reduceSub, Int.reduceEq, Nat.reduceBEq, List.replicate, List.set, evB, tyA, hO, apD]
              (repeat (with_reducible refine And.intro ?_ ?_; exact sdX))
              refine mkS_le rfl ?_ ?_
              · exact evX
              · exact evX
          (repeat (first | refine awp_seq ?_ | refine awp_block ?_ | ((first | refine awp_skip ?_ | refine awp_exit ?_ | refine awp_reg ttok ?_ | (refine awp_draw ttok ?dr_calm ?_; (case dr_calm => decide +kernel)) | refine awp_condM ?_); simp (maxSteps := 4000000) only [↓reduceIte, Nat.reduceLT, Nat.reduceEqDiff, reduceCtorEq, Nat.reduceAdd, Nat.reduceMul, Int.reduceLE, Int.reduceLT, Int.reduceToNat, Nat.reduceLeDiff, Nat.reduceSub, Int.reduceEq, Nat.reduceBEq, List.replicate, List.set, evB, tyA]; (repeat (with_reducible refine And.intro ?_ ?_; exact sdX)); (with_reducible first | refine awp_id ?_ | refine id_call ?_ | refine id_and ?_ | refine id_ex ?_ | refine id_all ?_ | refine id_nat ?_ | refine id_le ?_))))
          refine awp_drawG ttok ((0, none) :: (1, none) :: (2, none) :: (3, none) :: (4, none) :: (5, none) :: (6, none) :: (7, some [0]) :: (8, some [0]) :: (9, some []) :: (10, none) :: []) ([]) ([]) (by decide +kernel) fun O hO => ?_; simp only [OpsAre, Nat.reduceAdd, and_true, List.toList_toArray, List.append_eq, List.cons_append, List.nil_append] at hO; simp (maxSteps := 4000000) only [↓reduceIte, Nat.reduceLT, Nat.reduceEqDiff, reduceCtorEq, Nat.reduceAdd, Nat.reduceMul, Int.reduceLE, Int.reduceLT, Int.reduceToNat, Nat.reduceLeDiff, Nat.reduceSub, Int.reduceEq, Nat.reduceBEq, List.replicate, List.set, evB, tyA, hO, gs, ints_len, haw]; (repeat (with_reducible refine And.intro ?_ ?_; exact sdX))
          refine callVC_mk fnok12 hNo rfl ?_
          simp (maxSteps := 4000000) only [↓reduceIte, Nat.reduceLT, Nat.reduceEqDiff, reduceCtorEq, Nat.reduceAdd, Nat.reduceMul, Int.reduceLE, Int.reduceLT, Int.reduceToNat, Nat.reduceLeDiff, Nat.reduceSub, Int.reduceEq, Nat.reduceBEq, List.replicate, List.set, evB, tyA, hO, hone, hr3, hta, tri_len, tri_take, htk]
          (repeat (with_reducible refine And.intro ?_ ?_; exact sdX))
          (repeat (first | refine awp_seq ?_ | refine awp_block ?_ | ((first | refine awp_skip ?_ | refine awp_exit ?_ | refine awp_reg ttok ?_ | (refine awp_draw ttok ?dr_calm ?_; (case dr_calm => decide +kernel)) | refine awp_condM ?_); simp (maxSteps := 4000000) only [↓reduceIte, Nat.reduceLT, Nat.reduceEqDiff, reduceCtorEq, Nat.reduceAdd, Nat.reduceMul, Int.reduceLE, Int.reduceLT, Int.reduceToNat, Nat.reduceLeDiff, Nat.reduceSub, Int.reduceEq, Nat.reduceBEq, List.replicate, List.set, evB, tyA, hwi]; (repeat (with_reducible refine And.intro ?_ ?_; exact sdX)); (with_reducible first | refine awp_id ?_ | refine id_call ?_ | refine id_and ?_ | refine id_ex ?_ | refine id_all ?_ | refine id_nat ?_ | refine id_le ?_))))
          refine ⟨(j + 1, y', nt ++ [(y'.q - 1, (a : Int), y'.s)]), ⟨by simp only; omega, by simp only; omega, by simp only [List.length_append, List.length_cons, List.length_nil]; omega, hn2⟩, by simp only; omega, mkS_le rfl ?_ ?_⟩
          · simp (maxSteps := 4000000) only [↓reduceIte, Nat.reduceLT, Nat.reduceEqDiff, reduceCtorEq, Nat.reduceAdd, Nat.reduceMul, Int.reduceLE, Int.reduceLT, Int.reduceToNat, Nat.reduceLeDiff, Nat.reduceSub, Int.reduceEq, Nat.reduceBEq, List.replicate, List.set, evB, List.length_append, List.length_cons, List.length_nil]
          · exact evX
      · have hd : (decide ((j : Int) < (s.length : Int)) = true ∧ decide ((j : Int) < 20) = false) ∨ (decide ((j : Int) < (s.length : Int)) = false ∧ True) := by
          by_cases h : j < s.length
          · left; exact ⟨by simpa using h, by simp; omega⟩
          · right; exact ⟨by simp; omega, trivial⟩
        rcases hd with ⟨d1, d2⟩ | ⟨d1, d2⟩
        all_goals
          (repeat (first | refine awp_seq ?_ | refine awp_block ?_ | ((first | refine awp_skip ?_ | refine awp_exit ?_ | refine awp_reg ttok ?_ | (refine awp_draw ttok ?dr_calm ?_; (case dr_calm => decide +kernel)) | refine awp_condM ?_); simp (maxSteps := 4000000) only [↓reduceIte, Nat.reduceLT, Nat.reduceEqDiff, reduceCtorEq, Nat.reduceAdd, Nat.reduceMul, Int.reduceLE, Int.reduceLT, Int.reduceToNat, Nat.reduceLeDiff, Nat.reduceSub, Int.reduceEq, Nat.reduceBEq, List.replicate, List.set, evB, tyA, d1, d2, ints_len, joinX]; (repeat (with_reducible refine And.intro ?_ ?_; exact sdX)); (with_reducible first | refine awp_id ?_ | refine id_call ?_ | refine id_and ?_ | refine id_ex ?_ | refine id_all ?_ | refine id_nat ?_ | refine id_le ?_))))
          refine ⟨(y, nt), ⟨hn, by simp only; omega⟩, mkS_le rfl ?_ ?_⟩
          · exact evX
          · exact evX
  · rintro ⟨y, nt⟩ ⟨hn, hnl⟩
    simp only at hn hnl
    have htk : List.take nt.length nt = nt := List.take_length
    by_cases h0 : nt.length = 0
    · have k0 : ((nt.length : Int) == 0) = true := by rw [h0]; rfl
      (repeat (first | refine awp_seq ?_ | refine awp_block ?_ | ((first | refine awp_skip ?_ | refine awp_exit ?_ | refine awp_reg ttok ?_ | (refine awp_draw ttok ?dr_calm ?_; (case dr_calm => decide +kernel)) | refine awp_condM ?_); simp (maxSteps := 4000000) only [↓reduceIte, Nat.reduceLT, Nat.reduceEqDiff, reduceCtorEq, Nat.reduceAdd, Nat.reduceMul, Int.reduceLE, Int.reduceLT, Int.reduceToNat, Nat.reduceLeDiff, Nat.reduceSub, Int.reduceEq, Nat.reduceBEq, List.replicate, List.set, evB, tyA, k0]; (repeat (with_reducible refine And.intro ?_ ?_; exact sdX)); (with_reducible first | refine awp_id ?_ | refine id_call ?_ | refine id_and ?_ | refine id_ex ?_ | refine id_all ?_ | refine id_nat ?_ | refine id_le ?_))))
      refine callVC_scal fnok7 c_awake39 rfl ?_
      simp (maxSteps := 4000000) only [↓reduceIte, Nat.reduceLT, Nat.reduceEqDiff, reduceCtorEq, Nat.reduceAdd, Nat.reduceMul, Int.reduceLE, Int.reduceLT, Int.reduceToNat, Nat.reduceLeDiff, Nat.reduceSub, Int.reduceEq, Nat.reduceBEq, List.replicate, List.set, evB, tyA]
      (repeat (with_reducible refine And.intro ?_ ?_; exact sdX))
      (repeat (first | refine awp_seq ?_ | refine awp_block ?_ | ((first | refine awp_skip ?_ | refine awp_exit ?_ | refine awp_reg ttok ?_ | (refine awp_draw ttok ?dr_calm ?_; (case dr_calm => decide +kernel)) | refine awp_condM ?_); simp (maxSteps := 4000000) only [↓reduceIte, Nat.reduceLT, Nat.reduceEqDiff, reduceCtorEq, Nat.reduceAdd, Nat.reduceMul, Int.reduceLE, Int.reduceLT, Int.reduceToNat, Nat.reduceLeDiff, Nat.reduceSub, Int.reduceEq, Nat.reduceBEq, List.replicate, List.set, evB, tyA]; (repeat (with_reducible refine And.intro ?_ ?_; exact sdX)); (with_reducible first | refine awp_id ?_ | refine id_call ?_ | refine id_and ?_ | refine id_ex ?_ | refine id_all ?_ | refine id_nat ?_ | refine id_le ?_))))
      exact awp_ret (ends_plain (.inr rfl) rfl evX)
    have k0 : ((nt.length : Int) == 0) = false := by rw [beq_eq_false_iff_ne]; omega
    obtain ⟨kk, hkk, hkw⟩ : ∃ kk : Nat, kk < nt.length ∧ (C8 : Int).tmod (nt.length : Int) = (kk : Int) := ⟨C8 % nt.length, Nat.mod_lt _ (by omega), by rw [Int.tmod_eq_emod_of_nonneg (by omega)]; rfl⟩
    have hgk := tri_get hkk
    have hstk := hn.st _ (getD_mem hkk (0, 0, 0))
    have hap0 : [] ++ tri nt = tri nt := rfl
    have hone0 : (tri nt).length = nt.length := tri_len nt
    obtain ⟨e0, e1, e2, hr⟩ : ∃ e0 e1 e2, nt.getD kk (0, 0, 0) = (e0, e1, e2) := ⟨_, _, _, rfl⟩
    rw [hr] at hgk hstk
    simp only at hgk hstk
    have kne : (nt.length : Int) ≠ 0 := by omega
    have hr3 : (∀ row ∈ tri nt, row.length = 3) = True := by
      simp only [tri, List.mem_map, eq_iff_iff, iff_true]
      rintro row ⟨x, _, rfl⟩; rfl
    (repeat (first | refine awp_seq ?_ | refine awp_block ?_ | ((first | refine awp_skip ?_ | refine awp_exit ?_ | refine awp_reg ttok ?_ | (refine awp_draw ttok ?dr_calm ?_; (case dr_calm => decide +kernel)) | refine awp_condM ?_); simp (maxSteps := 4000000) only [↓reduceIte, Nat.reduceLT, Nat.reduceEqDiff, reduceCtorEq, Nat.reduceAdd, Nat.reduceMul, Int.reduceLE, Int.reduceLT, Int.reduceToNat, Nat.reduceLeDiff, Nat.reduceSub, Int.reduceEq, Nat.reduceBEq, List.replicate, List.set, evB, tyA, k0, hC8w, hkw, kne, tri_len, tri_take, htk, hr3, hap0]; (repeat (with_reducible refine And.intro ?_ ?_; exact sdX)); (with_reducible first | refine awp_id ?_ | refine id_call ?_ | refine id_and ?_ | refine id_ex ?_ | refine id_all ?_ | refine id_nat ?_ | refine id_le ?_))))
    have hC4 : C16 = 0 ∨ C16 = 1 ∨ C16 = 2 ∨ C16 = 3 := by omega
    rcases hC4 with hv3 | hv3 | hv3 | hv3
    · have hv3 : C16 = 0 := by omega
      subst hv3
      clear hC16w0
      have hw0 : IntKind.i64.wrap (e0 + 1) = e0 + 1 := i64_in (by omega) (by omega)
      have hbad := replay_bad nt kk fi y hn.re hkk (r' := (e0 + 1, e1, e2)) (by rw [hr]; exact .inl ⟨rfl, .inl (by simp only; omega)⟩)
      have hsb := tri_set nt kk (e0 + 1, e1, e2)
      have hlb : (nt.set kk (e0 + 1, e1, e2)).length = nt.length := List.length_set
      have htb : List.take nt.length (nt.set kk (e0 + 1, e1, e2)) = nt.set kk (e0 + 1, e1, e2) := List.take_of_length_le (by omega)
      have hRe := c_Replay false false x hw lb hA fi hb0 (nt.set kk (e0 + 1, e1, e2)) (by omega)
      rw [hbad] at hRe
      have q0 : (((0 : Nat) : Int) == 0) = true := rfl
      have q1 : (((0 : Nat) : Int) == 1) = false := rfl
      have q2 : (((0 : Nat) : Int) == 2) = false := rfl
      have q3 : (((0 : Nat) : Int) == 3) = false := rfl
      (repeat (first | refine awp_seq ?_ | refine awp_block ?_ | ((first | refine awp_skip ?_ | refine awp_exit ?_ | refine awp_reg ttok ?_ | (refine awp_draw ttok ?dr_calm ?_; (case dr_calm => decide +kernel)) | refine awp_condM ?_); simp (maxSteps := 4000000) only [↓reduceIte, Nat.reduceLT, Nat.reduceEqDiff, reduceCtorEq, Nat.reduceAdd, Nat.reduceMul, Int.reduceLE, Int.reduceLT, Int.reduceToNat, Nat.reduceLeDiff, Nat.reduceSub, Int.reduceEq, Nat.reduceBEq, List.replicate, List.set, evB, tyA, hC8w, hkw, hC16w, q0, q1, q2, q3, hgk, tri_len, hone0, hap0, tri_take, htk, hlb, htb, hw0, hsb]; (repeat (with_reducible refine And.intro ?_ ?_; exact sdX)); (with_reducible first | refine awp_id ?_ | refine id_call ?_ | refine id_and ?_ | refine id_ex ?_ | refine id_all ?_ | refine id_nat ?_ | refine id_le ?_))))
      refine callVC_mk fnok13 hRe rfl ?_
      simp (maxSteps := 4000000) only [↓reduceIte, Nat.reduceLT, Nat.reduceEqDiff, reduceCtorEq, Nat.reduceAdd, Nat.reduceMul, Int.reduceLE, Int.reduceLT, Int.reduceToNat, Nat.reduceLeDiff, Nat.reduceSub, Int.reduceEq, Nat.reduceBEq, List.replicate, List.set, evB, tyA, apD, tri_len, tri_take, hlb, htb]
      (repeat (with_reducible refine And.intro ?_ ?_; exact sdX))
      (repeat (first | refine awp_seq ?_ | refine awp_block ?_ | ((first | refine awp_skip ?_ | refine awp_exit ?_ | refine awp_reg ttok ?_ | (refine awp_draw ttok ?dr_calm ?_; (case dr_calm => decide +kernel)) | refine awp_condM ?_); simp (maxSteps := 4000000) only [↓reduceIte, Nat.reduceLT, Nat.reduceEqDiff, reduceCtorEq, Nat.reduceAdd, Nat.reduceMul, Int.reduceLE, Int.reduceLT, Int.reduceToNat, Nat.reduceLeDiff, Nat.reduceSub, Int.reduceEq, Nat.reduceBEq, List.replicate, List.set, evB, tyA]; (repeat (with_reducible refine And.intro ?_ ?_; exact sdX)); (with_reducible first | refine awp_id ?_ | refine id_call ?_ | refine id_and ?_ | refine id_ex ?_ | refine id_all ?_ | refine id_nat ?_ | refine id_le ?_))))
      refine callVC_scal fnok7 c_awake39 rfl ?_
      simp (maxSteps := 4000000) only [↓reduceIte, Nat.reduceLT, Nat.reduceEqDiff, reduceCtorEq, Nat.reduceAdd, Nat.reduceMul, Int.reduceLE, Int.reduceLT, Int.reduceToNat, Nat.reduceLeDiff, Nat.reduceSub, Int.reduceEq, Nat.reduceBEq, List.replicate, List.set, evB, tyA]
      (repeat (with_reducible refine And.intro ?_ ?_; exact sdX))
      refine callVC_scal fnok10 hSm rfl ?_
      simp (maxSteps := 4000000) only [↓reduceIte, Nat.reduceLT, Nat.reduceEqDiff, reduceCtorEq, Nat.reduceAdd, Nat.reduceMul, Int.reduceLE, Int.reduceLT, Int.reduceToNat, Nat.reduceLeDiff, Nat.reduceSub, Int.reduceEq, Nat.reduceBEq, List.replicate, List.set, evB, tyA]
      (repeat (with_reducible refine And.intro ?_ ?_; exact sdX))
      refine callVC_mk fnok8 hF0 rfl ?_
      simp (maxSteps := 4000000) only [↓reduceIte, Nat.reduceLT, Nat.reduceEqDiff, reduceCtorEq, Nat.reduceAdd, Nat.reduceMul, Int.reduceLE, Int.reduceLT, Int.reduceToNat, Nat.reduceLeDiff, Nat.reduceSub, Int.reduceEq, Nat.reduceBEq, List.replicate, List.set, evB, tyA, hz0, k00]
      (repeat (with_reducible refine And.intro ?_ ?_; exact sdX))
      refine callVC_mk fnok8 hF16 rfl ?_
      simp (maxSteps := 4000000) only [↓reduceIte, Nat.reduceLT, Nat.reduceEqDiff, reduceCtorEq, Nat.reduceAdd, Nat.reduceMul, Int.reduceLE, Int.reduceLT, Int.reduceToNat, Nat.reduceLeDiff, Nat.reduceSub, Int.reduceEq, Nat.reduceBEq, List.replicate, List.set, evB, tyA, hz16, k16]
      (repeat (with_reducible refine And.intro ?_ ?_; exact sdX))
      (repeat (first | refine awp_seq ?_ | refine awp_block ?_ | ((first | refine awp_skip ?_ | refine awp_exit ?_ | refine awp_reg ttok ?_ | (refine awp_draw ttok ?dr_calm ?_; (case dr_calm => decide +kernel)) | refine awp_condM ?_); simp (maxSteps := 4000000) only [↓reduceIte, Nat.reduceLT, Nat.reduceEqDiff, reduceCtorEq, Nat.reduceAdd, Nat.reduceMul, Int.reduceLE, Int.reduceLT, Int.reduceToNat, Nat.reduceLeDiff, Nat.reduceSub, Int.reduceEq, Nat.reduceBEq, List.replicate, List.set, evB, tyA]; (repeat (with_reducible refine And.intro ?_ ?_; exact sdX)); (with_reducible first | refine awp_id ?_ | refine id_call ?_ | refine id_and ?_ | refine id_ex ?_ | refine id_all ?_ | refine id_nat ?_ | refine id_le ?_))))
      exact awp_ret (ends_plain (.inr rfl) rfl evX)
    · have hv3 : C16 = 1 := by omega
      subst hv3
      clear hC16w0
      have hw0 : IntKind.i64.wrap (1 + (C18 : Int)) = 1 + (C18 : Int) := i64_in (by omega) (by omega)
      have hw1 : IntKind.i64.wrap (e2 + (1 + (C18 : Int))) = e2 + (1 + (C18 : Int)) := i64_in (by omega) (by omega)
      have hbad := replay_bad nt kk fi y hn.re hkk (r' := (e0, e1, e2 + (1 + (C18 : Int)))) (by rw [hr]; exact .inl ⟨rfl, .inr (by simp only; omega)⟩)
      have hsb := tri_set nt kk (e0, e1, e2 + (1 + (C18 : Int)))
      have hlb : (nt.set kk (e0, e1, e2 + (1 + (C18 : Int)))).length = nt.length := List.length_set
      have htb : List.take nt.length (nt.set kk (e0, e1, e2 + (1 + (C18 : Int)))) = nt.set kk (e0, e1, e2 + (1 + (C18 : Int))) := List.take_of_length_le (by omega)
      have hRe := c_Replay false false x hw lb hA fi hb0 (nt.set kk (e0, e1, e2 + (1 + (C18 : Int)))) (by omega)
      rw [hbad] at hRe
      have q0 : (((1 : Nat) : Int) == 0) = false := rfl
      have q1 : (((1 : Nat) : Int) == 1) = true := rfl
      have q2 : (((1 : Nat) : Int) == 2) = false := rfl
      have q3 : (((1 : Nat) : Int) == 3) = false := rfl
      (repeat (first | refine awp_seq ?_ | refine awp_block ?_ | ((first | refine awp_skip ?_ | refine awp_exit ?_ | refine awp_reg ttok ?_ | (refine awp_draw ttok ?dr_calm ?_; (case dr_calm => decide +kernel)) | refine awp_condM ?_); simp (maxSteps := 4000000) only [↓reduceIte, Nat.reduceLT, Nat.reduceEqDiff, reduceCtorEq, Nat.reduceAdd, Nat.reduceMul, Int.reduceLE, Int.reduceLT, Int.reduceToNat, Nat.reduceLeDiff, Nat.reduceSub, Int.reduceEq, Nat.reduceBEq, List.replicate, List.set, evB, tyA, hC8w, hkw, hC16w, q0, q1, q2, q3, hgk, tri_len, hone0, hap0, tri_take, htk, hlb, htb, hw0, hw1, hC18w, hsb]; (repeat (with_reducible refine And.intro ?_ ?_; exact sdX)); (with_reducible first | refine awp_id ?_ | refine id_call ?_ | refine id_and ?_ | refine id_ex ?_ | refine id_all ?_ | refine id_nat ?_ | refine id_le ?_))))
      refine awp_drawG ttok ((0, none) :: (1, none) :: (2, none) :: (3, none) :: (4, none) :: (5, none) :: (6, none) :: (7, none) :: (8, none) :: (9, none) :: (10, none) :: (11, none) :: (12, none) :: (13, some []) :: []) ([]) ([]) (by decide +kernel) fun O hO => ?_; simp only [OpsAre, Nat.reduceAdd, and_true, List.toList_toArray, List.append_eq, List.cons_append, List.nil_append] at hO; simp (maxSteps := 4000000) only [↓reduceIte, Nat.reduceLT, Nat.reduceEqDiff, reduceCtorEq, Nat.reduceAdd, Nat.reduceMul, Int.reduceLE, Int.reduceLT, Int.reduceToNat, Nat.reduceLeDiff, Nat.reduceSub, Int.reduceEq, Nat.reduceBEq, List.replicate, List.set, evB, tyA, hO, hgk, tri_len, hw0, hw1, hC18w, hsb]; (repeat (with_reducible refine And.intro ?_ ?_; exact sdX))
      (repeat (first | refine awp_seq ?_ | refine awp_block ?_ | ((first | refine awp_skip ?_ | refine awp_exit ?_ | refine awp_reg ttok ?_ | (refine awp_draw ttok ?dr_calm ?_; (case dr_calm => decide +kernel)) | refine awp_condM ?_); simp (maxSteps := 4000000) only [↓reduceIte, Nat.reduceLT, Nat.reduceEqDiff, reduceCtorEq, Nat.reduceAdd, Nat.reduceMul, Int.reduceLE, Int.reduceLT, Int.reduceToNat, Nat.reduceLeDiff, Nat.reduceSub, Int.reduceEq, Nat.reduceBEq, List.replicate, List.set, evB, tyA, tri_take, tri_len, hlb, htb]; (repeat (with_reducible refine And.intro ?_ ?_; exact sdX)); (with_reducible first | refine awp_id ?_ | refine id_call ?_ | refine id_and ?_ | refine id_ex ?_ | refine id_all ?_ | refine id_nat ?_ | refine id_le ?_))))
      refine callVC_mk fnok13 hRe rfl ?_
      simp (maxSteps := 4000000) only [↓reduceIte, Nat.reduceLT, Nat.reduceEqDiff, reduceCtorEq, Nat.reduceAdd, Nat.reduceMul, Int.reduceLE, Int.reduceLT, Int.reduceToNat, Nat.reduceLeDiff, Nat.reduceSub, Int.reduceEq, Nat.reduceBEq, List.replicate, List.set, evB, tyA, apD, tri_len, tri_take, hlb, htb]
      (repeat (with_reducible refine And.intro ?_ ?_; exact sdX))
      (repeat (first | refine awp_seq ?_ | refine awp_block ?_ | ((first | refine awp_skip ?_ | refine awp_exit ?_ | refine awp_reg ttok ?_ | (refine awp_draw ttok ?dr_calm ?_; (case dr_calm => decide +kernel)) | refine awp_condM ?_); simp (maxSteps := 4000000) only [↓reduceIte, Nat.reduceLT, Nat.reduceEqDiff, reduceCtorEq, Nat.reduceAdd, Nat.reduceMul, Int.reduceLE, Int.reduceLT, Int.reduceToNat, Nat.reduceLeDiff, Nat.reduceSub, Int.reduceEq, Nat.reduceBEq, List.replicate, List.set, evB, tyA]; (repeat (with_reducible refine And.intro ?_ ?_; exact sdX)); (with_reducible first | refine awp_id ?_ | refine id_call ?_ | refine id_and ?_ | refine id_ex ?_ | refine id_all ?_ | refine id_nat ?_ | refine id_le ?_))))
      refine callVC_scal fnok7 c_awake39 rfl ?_
      simp (maxSteps := 4000000) only [↓reduceIte, Nat.reduceLT, Nat.reduceEqDiff, reduceCtorEq, Nat.reduceAdd, Nat.reduceMul, Int.reduceLE, Int.reduceLT, Int.reduceToNat, Nat.reduceLeDiff, Nat.reduceSub, Int.reduceEq, Nat.reduceBEq, List.replicate, List.set, evB, tyA]
      (repeat (with_reducible refine And.intro ?_ ?_; exact sdX))
      refine callVC_scal fnok10 hSm rfl ?_
      simp (maxSteps := 4000000) only [↓reduceIte, Nat.reduceLT, Nat.reduceEqDiff, reduceCtorEq, Nat.reduceAdd, Nat.reduceMul, Int.reduceLE, Int.reduceLT, Int.reduceToNat, Nat.reduceLeDiff, Nat.reduceSub, Int.reduceEq, Nat.reduceBEq, List.replicate, List.set, evB, tyA]
      (repeat (with_reducible refine And.intro ?_ ?_; exact sdX))
      refine callVC_mk fnok8 hF0 rfl ?_
      simp (maxSteps := 4000000) only [↓reduceIte, Nat.reduceLT, Nat.reduceEqDiff, reduceCtorEq, Nat.reduceAdd, Nat.reduceMul, Int.reduceLE, Int.reduceLT, Int.reduceToNat, Nat.reduceLeDiff, Nat.reduceSub, Int.reduceEq, Nat.reduceBEq, List.replicate, List.set, evB, tyA, hz0, k00]
      (repeat (with_reducible refine And.intro ?_ ?_; exact sdX))
      refine callVC_mk fnok8 hF16 rfl ?_
      simp (maxSteps := 4000000) only [↓reduceIte, Nat.reduceLT, Nat.reduceEqDiff, reduceCtorEq, Nat.reduceAdd, Nat.reduceMul, Int.reduceLE, Int.reduceLT, Int.reduceToNat, Nat.reduceLeDiff, Nat.reduceSub, Int.reduceEq, Nat.reduceBEq, List.replicate, List.set, evB, tyA, hz16, k16]
      (repeat (with_reducible refine And.intro ?_ ?_; exact sdX))
      (repeat (first | refine awp_seq ?_ | refine awp_block ?_ | ((first | refine awp_skip ?_ | refine awp_exit ?_ | refine awp_reg ttok ?_ | (refine awp_draw ttok ?dr_calm ?_; (case dr_calm => decide +kernel)) | refine awp_condM ?_); simp (maxSteps := 4000000) only [↓reduceIte, Nat.reduceLT, Nat.reduceEqDiff, reduceCtorEq, Nat.reduceAdd, Nat.reduceMul, Int.reduceLE, Int.reduceLT, Int.reduceToNat, Nat.reduceLeDiff, Nat.reduceSub, Int.reduceEq, Nat.reduceBEq, List.replicate, List.set, evB, tyA]; (repeat (with_reducible refine And.intro ?_ ?_; exact sdX)); (with_reducible first | refine awp_id ?_ | refine id_call ?_ | refine id_and ?_ | refine id_ex ?_ | refine id_all ?_ | refine id_nat ?_ | refine id_le ?_))))
      exact awp_ret (ends_plain (.inr rfl) rfl evX)
    · have hv3 : C16 = 2 := by omega
      subst hv3
      clear hC16w0
      have hbad := replay_bad nt kk fi y hn.re hkk (r' := (e0, -1, e2)) (by rw [hr]; exact .inr (.inl (by simp only; omega)))
      have hsb := tri_set nt kk (e0, -1, e2)
      have hlb : (nt.set kk (e0, -1, e2)).length = nt.length := List.length_set
      have htb : List.take nt.length (nt.set kk (e0, -1, e2)) = nt.set kk (e0, -1, e2) := List.take_of_length_le (by omega)
      have hRe := c_Replay false false x hw lb hA fi hb0 (nt.set kk (e0, -1, e2)) (by omega)
      rw [hbad] at hRe
      have q0 : (((2 : Nat) : Int) == 0) = false := rfl
      have q1 : (((2 : Nat) : Int) == 1) = false := rfl
      have q2 : (((2 : Nat) : Int) == 2) = true := rfl
      have q3 : (((2 : Nat) : Int) == 3) = false := rfl
      (repeat (first | refine awp_seq ?_ | refine awp_block ?_ | ((first | refine awp_skip ?_ | refine awp_exit ?_ | refine awp_reg ttok ?_ | (refine awp_draw ttok ?dr_calm ?_; (case dr_calm => decide +kernel)) | refine awp_condM ?_); simp (maxSteps := 4000000) only [↓reduceIte, Nat.reduceLT, Nat.reduceEqDiff, reduceCtorEq, Nat.reduceAdd, Nat.reduceMul, Int.reduceLE, Int.reduceLT, Int.reduceToNat, Nat.reduceLeDiff, Nat.reduceSub, Int.reduceEq, Nat.reduceBEq, List.replicate, List.set, evB, tyA, hC8w, hkw, hC16w, q0, q1, q2, q3, hgk, tri_len, hone0, hap0, tri_take, htk, hlb, htb, hsb]; (repeat (with_reducible refine And.intro ?_ ?_; exact sdX)); (with_reducible first | refine awp_id ?_ | refine id_call ?_ | refine id_and ?_ | refine id_ex ?_ | refine id_all ?_ | refine id_nat ?_ | refine id_le ?_))))
      refine callVC_mk fnok13 hRe rfl ?_
      simp (maxSteps := 4000000) only [↓reduceIte, Nat.reduceLT, Nat.reduceEqDiff, reduceCtorEq, Nat.reduceAdd, Nat.reduceMul, Int.reduceLE, Int.reduceLT, Int.reduceToNat, Nat.reduceLeDiff, Nat.reduceSub, Int.reduceEq, Nat.reduceBEq, List.replicate, List.set, evB, tyA, apD, tri_len, tri_take, hlb, htb]
      (repeat (with_reducible refine And.intro ?_ ?_; exact sdX))
      (repeat (first | refine awp_seq ?_ | refine awp_block ?_ | ((first | refine awp_skip ?_ | refine awp_exit ?_ | refine awp_reg ttok ?_ | (refine awp_draw ttok ?dr_calm ?_; (case dr_calm => decide +kernel)) | refine awp_condM ?_); simp (maxSteps := 4000000) only [↓reduceIte, Nat.reduceLT, Nat.reduceEqDiff, reduceCtorEq, Nat.reduceAdd, Nat.reduceMul, Int.reduceLE, Int.reduceLT, Int.reduceToNat, Nat.reduceLeDiff, Nat.reduceSub, Int.reduceEq, Nat.reduceBEq, List.replicate, List.set, evB, tyA]; (repeat (with_reducible refine And.intro ?_ ?_; exact sdX)); (with_reducible first | refine awp_id ?_ | refine id_call ?_ | refine id_and ?_ | refine id_ex ?_ | refine id_all ?_ | refine id_nat ?_ | refine id_le ?_))))
      refine callVC_scal fnok7 c_awake39 rfl ?_
      simp (maxSteps := 4000000) only [↓reduceIte, Nat.reduceLT, Nat.reduceEqDiff, reduceCtorEq, Nat.reduceAdd, Nat.reduceMul, Int.reduceLE, Int.reduceLT, Int.reduceToNat, Nat.reduceLeDiff, Nat.reduceSub, Int.reduceEq, Nat.reduceBEq, List.replicate, List.set, evB, tyA]
      (repeat (with_reducible refine And.intro ?_ ?_; exact sdX))
      refine callVC_scal fnok10 hSm rfl ?_
      simp (maxSteps := 4000000) only [↓reduceIte, Nat.reduceLT, Nat.reduceEqDiff, reduceCtorEq, Nat.reduceAdd, Nat.reduceMul, Int.reduceLE, Int.reduceLT, Int.reduceToNat, Nat.reduceLeDiff, Nat.reduceSub, Int.reduceEq, Nat.reduceBEq, List.replicate, List.set, evB, tyA]
      (repeat (with_reducible refine And.intro ?_ ?_; exact sdX))
      refine callVC_mk fnok8 hF0 rfl ?_
      simp (maxSteps := 4000000) only [↓reduceIte, Nat.reduceLT, Nat.reduceEqDiff, reduceCtorEq, Nat.reduceAdd, Nat.reduceMul, Int.reduceLE, Int.reduceLT, Int.reduceToNat, Nat.reduceLeDiff, Nat.reduceSub, Int.reduceEq, Nat.reduceBEq, List.replicate, List.set, evB, tyA, hz0, k00]
      (repeat (with_reducible refine And.intro ?_ ?_; exact sdX))
      refine callVC_mk fnok8 hF16 rfl ?_
      simp (maxSteps := 4000000) only [↓reduceIte, Nat.reduceLT, Nat.reduceEqDiff, reduceCtorEq, Nat.reduceAdd, Nat.reduceMul, Int.reduceLE, Int.reduceLT, Int.reduceToNat, Nat.reduceLeDiff, Nat.reduceSub, Int.reduceEq, Nat.reduceBEq, List.replicate, List.set, evB, tyA, hz16, k16]
      (repeat (with_reducible refine And.intro ?_ ?_; exact sdX))
      (repeat (first | refine awp_seq ?_ | refine awp_block ?_ | ((first | refine awp_skip ?_ | refine awp_exit ?_ | refine awp_reg ttok ?_ | (refine awp_draw ttok ?dr_calm ?_; (case dr_calm => decide +kernel)) | refine awp_condM ?_); simp (maxSteps := 4000000) only [↓reduceIte, Nat.reduceLT, Nat.reduceEqDiff, reduceCtorEq, Nat.reduceAdd, Nat.reduceMul, Int.reduceLE, Int.reduceLT, Int.reduceToNat, Nat.reduceLeDiff, Nat.reduceSub, Int.reduceEq, Nat.reduceBEq, List.replicate, List.set, evB, tyA]; (repeat (with_reducible refine And.intro ?_ ?_; exact sdX)); (with_reducible first | refine awp_id ?_ | refine id_call ?_ | refine id_and ?_ | refine id_ex ?_ | refine id_all ?_ | refine id_nat ?_ | refine id_le ?_))))
      exact awp_ret (ends_plain (.inr rfl) rfl evX)
    · have hv3 : C16 = 3 := by omega
      subst hv3
      clear hC16w0
      have hbad := replay_bad nt kk fi y hn.re hkk (r' := (e0, 99, e2)) (by rw [hr]; exact .inr (.inr (by simp only; omega)))
      have hsb := tri_set nt kk (e0, 99, e2)
      have hlb : (nt.set kk (e0, 99, e2)).length = nt.length := List.length_set
      have htb : List.take nt.length (nt.set kk (e0, 99, e2)) = nt.set kk (e0, 99, e2) := List.take_of_length_le (by omega)
      have hRe := c_Replay false false x hw lb hA fi hb0 (nt.set kk (e0, 99, e2)) (by omega)
      rw [hbad] at hRe
      have q0 : (((3 : Nat) : Int) == 0) = false := rfl
      have q1 : (((3 : Nat) : Int) == 1) = false := rfl
      have q2 : (((3 : Nat) : Int) == 2) = false := rfl
      have q3 : (((3 : Nat) : Int) == 3) = true := rfl
      (repeat (first | refine awp_seq ?_ | refine awp_block ?_ | ((first | refine awp_skip ?_ | refine awp_exit ?_ | refine awp_reg ttok ?_ | (refine awp_draw ttok ?dr_calm ?_; (case dr_calm => decide +kernel)) | refine awp_condM ?_); simp (maxSteps := 4000000) only [↓reduceIte, Nat.reduceLT, Nat.reduceEqDiff, reduceCtorEq, Nat.reduceAdd, Nat.reduceMul, Int.reduceLE, Int.reduceLT, Int.reduceToNat, Nat.reduceLeDiff, Nat.reduceSub, Int.reduceEq, Nat.reduceBEq, List.replicate, List.set, evB, tyA, hC8w, hkw, hC16w, q0, q1, q2, q3, hgk, tri_len, hone0, hap0, tri_take, htk, hlb, htb, hsb]; (repeat (with_reducible refine And.intro ?_ ?_; exact sdX)); (with_reducible first | refine awp_id ?_ | refine id_call ?_ | refine id_and ?_ | refine id_ex ?_ | refine id_all ?_ | refine id_nat ?_ | refine id_le ?_))))
      refine callVC_mk fnok13 hRe rfl ?_
      simp (maxSteps := 4000000) only [↓reduceIte, Nat.reduceLT, Nat.reduceEqDiff, reduceCtorEq, Nat.reduceAdd, Nat.reduceMul, Int.reduceLE, Int.reduceLT, Int.reduceToNat, Nat.reduceLeDiff, Nat.reduceSub, Int.reduceEq, Nat.reduceBEq, List.replicate, List.set, evB, tyA, apD, tri_len, tri_take, hlb, htb]
      (repeat (with_reducible refine And.intro ?_ ?_; exact sdX))
      (repeat (first | refine awp_seq ?_ | refine awp_block ?_ | ((first | refine awp_skip ?_ | refine awp_exit ?_ | refine awp_reg ttok ?_ | (refine awp_draw ttok ?dr_calm ?_; (case dr_calm => decide +kernel)) | refine awp_condM ?_); simp (maxSteps := 4000000) only [↓reduceIte, Nat.reduceLT, Nat.reduceEqDiff, reduceCtorEq, Nat.reduceAdd, Nat.reduceMul, Int.reduceLE, Int.reduceLT, Int.reduceToNat, Nat.reduceLeDiff, Nat.reduceSub, Int.reduceEq, Nat.reduceBEq, List.replicate, List.set, evB, tyA]; (repeat (with_reducible refine And.intro ?_ ?_; exact sdX)); (with_reducible first | refine awp_id ?_ | refine id_call ?_ | refine id_and ?_ | refine id_ex ?_ | refine id_all ?_ | refine id_nat ?_ | refine id_le ?_))))
      refine callVC_scal fnok7 c_awake39 rfl ?_
      simp (maxSteps := 4000000) only [↓reduceIte, Nat.reduceLT, Nat.reduceEqDiff, reduceCtorEq, Nat.reduceAdd, Nat.reduceMul, Int.reduceLE, Int.reduceLT, Int.reduceToNat, Nat.reduceLeDiff, Nat.reduceSub, Int.reduceEq, Nat.reduceBEq, List.replicate, List.set, evB, tyA]
      (repeat (with_reducible refine And.intro ?_ ?_; exact sdX))
      refine callVC_scal fnok10 hSm rfl ?_
      simp (maxSteps := 4000000) only [↓reduceIte, Nat.reduceLT, Nat.reduceEqDiff, reduceCtorEq, Nat.reduceAdd, Nat.reduceMul, Int.reduceLE, Int.reduceLT, Int.reduceToNat, Nat.reduceLeDiff, Nat.reduceSub, Int.reduceEq, Nat.reduceBEq, List.replicate, List.set, evB, tyA]
      (repeat (with_reducible refine And.intro ?_ ?_; exact sdX))
      refine callVC_mk fnok8 hF0 rfl ?_
      simp (maxSteps := 4000000) only [↓reduceIte, Nat.reduceLT, Nat.reduceEqDiff, reduceCtorEq, Nat.reduceAdd, Nat.reduceMul, Int.reduceLE, Int.reduceLT, Int.reduceToNat, Nat.reduceLeDiff, Nat.reduceSub, Int.reduceEq, Nat.reduceBEq, List.replicate, List.set, evB, tyA, hz0, k00]
      (repeat (with_reducible refine And.intro ?_ ?_; exact sdX))
      refine callVC_mk fnok8 hF16 rfl ?_
      simp (maxSteps := 4000000) only [↓reduceIte, Nat.reduceLT, Nat.reduceEqDiff, reduceCtorEq, Nat.reduceAdd, Nat.reduceMul, Int.reduceLE, Int.reduceLT, Int.reduceToNat, Nat.reduceLeDiff, Nat.reduceSub, Int.reduceEq, Nat.reduceBEq, List.replicate, List.set, evB, tyA, hz16, k16]
      (repeat (with_reducible refine And.intro ?_ ?_; exact sdX))
      (repeat (first | refine awp_seq ?_ | refine awp_block ?_ | ((first | refine awp_skip ?_ | refine awp_exit ?_ | refine awp_reg ttok ?_ | (refine awp_draw ttok ?dr_calm ?_; (case dr_calm => decide +kernel)) | refine awp_condM ?_); simp (maxSteps := 4000000) only [↓reduceIte, Nat.reduceLT, Nat.reduceEqDiff, reduceCtorEq, Nat.reduceAdd, Nat.reduceMul, Int.reduceLE, Int.reduceLT, Int.reduceToNat, Nat.reduceLeDiff, Nat.reduceSub, Int.reduceEq, Nat.reduceBEq, List.replicate, List.set, evB, tyA]; (repeat (with_reducible refine And.intro ?_ ?_; exact sdX)); (with_reducible first | refine awp_id ?_ | refine id_call ?_ | refine id_and ?_ | refine id_ex ?_ | refine id_all ?_ | refine id_nat ?_ | refine id_le ?_))))
      exact awp_ret (ends_plain (.inr rfl) rfl evX)
end Go.Proofs.Ytkpplakjdcpoaaa
namespace Go.Proofs.Ytkpplakjdcpoaaa.procReplays
open Go.ChangeShapes Go.WideShapes Go.ChangeAt Go.RowKit
open Go.Ab
theorem own : ownKnob Try.prog.godebug = none := by kernel_rfl
theorem laidOut : laidOutB Try.prog = true := by kernel_rfl
set_option maxRecDepth 100000 in
theorem lifted (os : Os) (started : os.Started) (H : Type) (enc : TypeId × Value → H) :
    ReturnsInHanded {} Try.checked os 4 .any (Rows.procReplaysSpec.pre6 enc Try.prog Try.f4 Rows.procReplaysRow.domain false) (Rows.procReplaysSpec.post enc Try.prog Try.f4 false true false false) := by
  refine returnsInHanded_of_change (C := Try.checked) own started (by kernel_rfl) Try.func4
    (ChangeSpec.witness6 (enc := enc) (C := Try.checked) false ⟨#[], #[.slice none 0 0, .agg #[.int .i64 0, .int .i64 0, .int .i64 0], .slice none 0 0], []⟩ 8 (by kernel_rfl) (by kernel_rfl) (by kernel_rfl) (by kernel_rfl)) ?_
  intro W base args ds gs before hval0 hW hcnd _
  have hval : ∀ (j : Nat) t v, Try.f4.params[j]? = some t → args[j]? = some v → Value.okWide Try.prog W .any base t v := hval0
  have hW' := hW
  obtain ⟨p, q, hA0, hV, rfl, hfz, hnd⟩ := hW
  have hA : DataW.TrodAll enc Try.prog W 0 (fun _ => true) true Try.f4.params.toList args.toList ds p := hA0
  rw [Try.params4] at hA hval
  obtain ⟨v0, vs0, d0, ds0, p0, q0, hargs, rfl, rfl, k0, r0⟩ := trodAll_cons hA
  obtain ⟨v1, vs1, d1, ds1, p1, q1, rfl, rfl, rfl, k1, r1⟩ := trodAll_cons r0
  obtain ⟨v2, vs2, d2, ds2, p2, q2, rfl, rfl, rfl, k2, r2⟩ := trodAll_cons r1
  obtain ⟨rfl, rfl, rfl⟩ := trodAll_nil r2
  obtain rfl : args = #[v0, v1, v2] := by cases args; simp_all
  obtain ⟨rfl, rfl⟩ := trodVars_none hV
  obtain ⟨a0, h0, e0⟩ := opensArg_slice Try.underlying22 (opens_slice Try.underlying22 (opens_arr3i Try.underlying23 (by kernel_rfl) (by kernel_rfl) Try.underlying3) (fun a => by kernel_rfl) (by decide +kernel)) H enc W base v0 d0 p0 (hval 0 _ v0 rfl rfl) k0
  obtain ⟨a1, h1, e1⟩ := opensArg_agg Try.underlying23 rfl (opens_arr3i Try.underlying23 (by kernel_rfl) (by kernel_rfl) Try.underlying3) H enc W base v1 d1 p1 (hval 1 _ v1 rfl rfl) k1
  obtain ⟨a2, h2, e2⟩ := opensArg_slice Try.underlying24 (opens_ints Try.underlying24 Try.underlying3 (by kernel_rfl)) H enc W base v2 d2 p2 (hval 2 _ v2 rfl rfl) k2
  refine (law_walk (c_ProcReplays false false a0 a1.1 a1.2.1 a1.2.2 a2 h0.1 h2.1) (vs := [v0, v1, v2]) ⟨e0, e1, e2, trivial⟩).mono fun e W' ⟨he, bel⟩ => ?_
  subst he
  exact ⟨_, rfl, law_end hW' rfl bel rfl rfl rfl rfl Try.underlying4 laidOut (by kernel_rfl)⟩
theorem proved : Rows.ProcReplaysSaid :=
  OpenClaim.holds_of_wide 4 Try.f4 rfl rfl rfl rfl rfl rfl rfl ⟨rfl, rfl, rfl, rfl, rfl⟩ rfl rfl rfl rfl rfl (by kernel_rfl) Try.func4 (by kernel_rfl)
    (of_decide_eq_true (by kernel_rfl)) (by unfold Func.isWrapper; first | (rw [if_pos (by decide +kernel)]; kernel_rfl) | (rw [if_neg (by decide +kernel)]; exact ⟨rfl, rfl⟩))
    (fun os started H enc _ => lifted os started H enc)
#print axioms proved
end Go.Proofs.Ytkpplakjdcpoaaa.procReplays
