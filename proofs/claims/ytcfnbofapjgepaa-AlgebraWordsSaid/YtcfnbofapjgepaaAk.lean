/-
  The contract of galliardref18.Alike.
-/
import Derived.Test.YtcfnbofapjgepaaAlk
namespace Go.Proofs.Ytcfnbofapjgepaa
open Go.Ab
set_option linter.unusedSimpArgs false
set_option linter.unusedVariables false

def kid (N M : List (List Int)) (s : S2) (c : Nat) : S2 := (toD N s.1 c, toD M s.2 c)
def kids (N M : List (List Int)) (s : S2) (c : Nat) : List S2 := (List.range c).map fun c => kid N M s c
theorem kids_succ (N M : List (List Int)) (s : S2) (c : Nat) : kids N M s (c + 1) = kids N M s c ++ [kid N M s c] := by simp [kids, List.range_succ]
theorem kids_len (N M : List (List Int)) (s : S2) (c : Nat) : (kids N M s c).length = c := by simp [kids]
def ix (m : Nat) (s : S2) : Nat := (s.1 + 1).toNat * (m + 1) + (s.2 + 1).toNat
def inR (k m : Nat) (s : S2) : Prop := -1 ≤ s.1 ∧ s.1 < (k : Int) ∧ -1 ≤ s.2 ∧ s.2 < (m : Int)
theorem kid_in {L k m : Nat} {N M : List (List Int)} (h : NOk L k N) (g : NOk L m M) (s : S2) (c : Nat) : inR k m (kid N M s c) := by
  have h1 := toD_ok h s.1 c
  have h2 := toD_ok g s.2 c
  unfold inR kid
  simp only; omega
theorem ix_lt {k m : Nat} {s : S2} (hs : inR k m s) : ix m s < (k + 1) * (m + 1) := by
  obtain ⟨h1, h2, h3, h4⟩ := hs
  have h5 : (s.1 + 1).toNat + 1 ≤ k + 1 := by omega
  have h6 : ((s.1 + 1).toNat + 1) * (m + 1) ≤ (k + 1) * (m + 1) := Nat.mul_le_mul h5 (Nat.le_refl _)
  rw [Nat.add_mul, Nat.one_mul] at h6
  unfold ix; omega
theorem ix_inj {k m : Nat} {s t : S2} (hs : inR k m s) (ht : inR k m t) (e : ix m s = ix m t) : s = t := by
  obtain ⟨h1, h2, h3, h4⟩ := hs
  obtain ⟨g1, g2, g3, g4⟩ := ht
  unfold ix at e
  have d1 : ((s.1 + 1).toNat * (m + 1) + (s.2 + 1).toNat) / (m + 1) = (s.1 + 1).toNat := by rw [Nat.mul_comm, Nat.mul_add_div (by omega), Nat.div_eq_of_lt (by omega), Nat.add_zero]
  have d2 : ((t.1 + 1).toNat * (m + 1) + (t.2 + 1).toNat) / (m + 1) = (t.1 + 1).toNat := by rw [Nat.mul_comm, Nat.mul_add_div (by omega), Nat.div_eq_of_lt (by omega), Nat.add_zero]
  have e1 : (s.1 + 1).toNat = (t.1 + 1).toNat := by rw [← d1, ← d2, e]
  rw [e1] at e
  exact Prod.ext (by omega) (by omega)
theorem count_set : ∀ (l : List Bool) (j : Nat), j < l.length → l.getD j false = false → (l.set j true).count true = l.count true + 1
  | [], j, h, _ => by simp at h
  | b :: l, 0, _, h => by
    simp only [List.getD_cons_zero] at h
    subst h; simp
  | b :: l, j + 1, h, h2 => by
    simp only [List.getD_cons_succ] at h2
    have := count_set l j (by simpa using h) h2
    rw [List.set_cons_succ, List.count_cons, List.count_cons, this]; omega

theorem getD_set_ne {l : List Bool} {i j : Nat} (h : i ≠ j) {x d : Bool} : (l.set i x).getD j d = l.getD j d := by simp only [List.getD, List.getElem?_set_ne h]
/-- A pair does what a word leaves. -/
def left (F G : List Bool) (N M : List (List Int)) (a b : Int) (t : S2) (u : List Nat) : Prop := ∀ v : List Nat, endsD F N t.1 (nInts v) = endsD F N a (nInts (u ++ v)) ∧ endsD G M t.2 (nInts v) = endsD G M b (nInts (u ++ v))
theorem endsD_cons {F : List Bool} {N : List (List Int)} (s : Int) (c : Nat) (v : List Nat) : endsD F N (toD N s c) (nInts v) = endsD F N s (nInts (c :: v)) := by
  have e : runD N s (nInts (c :: v)) = if s < 0 then s else runD N (toD N s c) (nInts v) := rfl
  unfold endsD
  by_cases h : s < 0
  · rw [e, if_pos h, toD_bad1 N s c (.inl h), runD_neg (by decide)]
    simp [show ¬ 0 ≤ s by omega]
  · rw [e, if_neg h]
theorem left_kid {F G : List Bool} {N M : List (List Int)} {a b : Int} {t : S2} {u : List Nat} (h : left F G N M a b t u) (c : Nat) : left F G N M a b (kid N M t c) (u ++ [c]) := fun v => by
  have := h (c :: v)
  rw [List.append_assoc]
  exact ⟨(endsD_cons t.1 c v).trans this.1, (endsD_cons t.2 c v).trans this.2⟩

theorem finS_nil (F : List Bool) (N : List (List Int)) (s : Int) : finS F s = endsD F N s (nInts []) := rfl
structure AInv (L k m : Nat) (F G : List Bool) (N M : List (List Int)) (a b : Nat) (todo : List S2) (seen : List Bool) (i : Nat) : Prop where
  first : ((a : Int), (b : Int)) ∈ todo
  come : ∀ t ∈ todo, inR k m t ∧ ∃ u : List Nat, (∀ x ∈ u, x < L) ∧ left F G N M a b t u
  len : seen.length = (k + 1) * (m + 1)
  done : ∀ j, j < i → seen.getD (ix m (todo.getD j (-1, -1))) false = true
  close : ∀ t, inR k m t → seen.getD (ix m t) false = true → finS F t.1 = finS G t.2 ∧ ∀ c, c < L → kid N M t c ∈ todo
  bound : todo.length ≤ 1 + L * seen.count true
  at_ : i ≤ todo.length

theorem AInv.init {L k m : Nat} {F G : List Bool} {N M : List (List Int)} {a b : Nat} (ha : a < k) (hb : b < m) : AInv L k m F G N M a b [((a : Int), (b : Int))] (List.replicate ((k + 1) * (m + 1)) false) 0 where
  first := by simp
  come := fun t ht => by
    rw [List.mem_singleton] at ht
    subst ht
    refine ⟨?_, [], by simp, fun v => ⟨rfl, rfl⟩⟩
    unfold inR; simp only; omega
  len := by simp
  done := fun j h => by omega
  close := fun t ht h => by
    have := ix_lt ht
    simp [List.getD, this] at h
  bound := by simp
  at_ := by simp
theorem AInv.skip {L k m : Nat} {F G : List Bool} {N M : List (List Int)} {a b i : Nat} {todo : List S2} {seen : List Bool} (h : AInv L k m F G N M a b todo seen i) (hi : i < todo.length) (hs : seen.getD (ix m (todo.getD i (-1, -1))) false = true) : AInv L k m F G N M a b todo seen (i + 1) where
  first := h.first
  come := h.come
  len := h.len
  done := fun j hj => by
    rcases Nat.lt_or_ge j i with g | g
    · exact h.done j g
    · obtain rfl : j = i := by omega
      exact hs
  close := h.close
  bound := h.bound
  at_ := hi
theorem AInv.take {L k m : Nat} {F G : List Bool} {N M : List (List Int)} (hN : NOk L k N) (hM : NOk L m M) {a b i : Nat} {todo : List S2} {seen : List Bool} (h : AInv L k m F G N M a b todo seen i) (hi : i < todo.length) (hs : seen.getD (ix m (todo.getD i (-1, -1))) false = false)
    (hf : finS F (todo.getD i (-1, -1)).1 = finS G (todo.getD i (-1, -1)).2) : AInv L k m F G N M a b (todo ++ kids N M (todo.getD i (-1, -1)) L) (seen.set (ix m (todo.getD i (-1, -1))) true) (i + 1) := by
  have hp := h.come _ (getD_mem hi (-1, -1))
  have hil := ix_lt hp.1
  have hg : ∀ t, inR k m t → (seen.set (ix m (todo.getD i (-1, -1))) true).getD (ix m t) false = true → t = todo.getD i (-1, -1) ∨ seen.getD (ix m t) false = true := fun t ht hq => by
    by_cases e : ix m (todo.getD i (-1, -1)) = ix m t
    · exact .inl (ix_inj ht hp.1 e.symm)
    · right
      have e2 : (seen.set (ix m (todo.getD i (-1, -1))) true).getD (ix m t) false = seen.getD (ix m t) false := getD_set_ne e
      rw [← e2]; exact hq
  have hset : ∀ j, seen.getD j false = true → (seen.set (ix m (todo.getD i (-1, -1))) true).getD j false = true := fun j hj => (set_ble seen _).2 j hj
  have hdone : ∀ j, j < i + 1 → (seen.set (ix m (todo.getD i (-1, -1))) true).getD (ix m ((todo ++ kids N M (todo.getD i (-1, -1)) L).getD j (-1, -1))) false = true := fun j hj => by
    rw [getD_app_lt (by omega)]
    rcases Nat.lt_or_ge j i with g | g
    · exact hset _ (h.done j g)
    · obtain rfl : j = i := by omega
      have hl : ix m (todo.getD j (-1, -1)) < seen.length := by rw [h.len]; exact hil
      generalize ix m (todo.getD j (-1, -1)) = z at *
      simp [List.getD, hl]
  generalize todo.getD i (-1, -1) = p at *
  refine ⟨List.mem_append_left _ h.first, fun t ht => ?_, by rw [List.length_set]; exact h.len, hdone, fun t ht hq => ?_, ?_, ?_⟩
  · rcases List.mem_append.1 ht with q | q
    · exact h.come t q
    · simp only [kids, List.mem_map, List.mem_range] at q
      obtain ⟨c, hc, rfl⟩ := q
      obtain ⟨u, hu, hl⟩ := hp.2
      refine ⟨kid_in hN hM _ _, u ++ [c], fun x hx => ?_, left_kid hl c⟩
      rcases List.mem_append.1 hx with q | q
      · exact hu x q
      · rw [List.mem_singleton.1 q]; exact hc
  · rcases hg t ht hq with rfl | q
    · exact ⟨hf, fun c hc => List.mem_append_right _ (by simp only [kids, List.mem_map, List.mem_range]; exact ⟨c, hc, rfl⟩)⟩
    · obtain ⟨g1, g2⟩ := h.close t ht q
      exact ⟨g1, fun c hc => List.mem_append_left _ (g2 c hc)⟩
  · rw [List.length_append, kids_len, count_set _ _ (by rw [h.len]; exact hil) hs, Nat.mul_add, Nat.mul_one]
    have := h.bound; omega
  · rw [List.length_append]; omega
theorem AInv.end_ {L k m : Nat} {F G : List Bool} {N M : List (List Int)} {a b : Nat} {todo : List S2} {seen : List Bool} (h : AInv L k m F G N M a b todo seen todo.length) (u : List Nat) : (∀ x ∈ u, x < L) → ∀ t ∈ todo, endsD F N t.1 (nInts u) = endsD G M t.2 (nInts u) := by
  have hall : ∀ t ∈ todo, finS F t.1 = finS G t.2 ∧ ∀ c, c < L → kid N M t c ∈ todo := fun t ht => by
    obtain ⟨j, hj, e⟩ := List.getElem_of_mem ht
    have e2 : todo.getD j (-1, -1) = t := by rw [← e]; simp [List.getD, List.getElem?_eq_getElem hj]
    have := h.done j hj
    rw [e2] at this
    exact h.close t (h.come t ht).1 this
  induction u with
  | nil => intro _ t ht; exact (hall t ht).1
  | cons c u ih =>
    intro hu t ht
    have := ih (fun x hx => hu x (by simp [hx])) _ ((hall t ht).2 c (hu c (by simp)))
    rw [← endsD_cons, ← endsD_cons]
    exact this

def tRows (t : List S2) : List (List D) := t.map fun s => [i64 s.1, i64 s.2]
theorem tRows_len (t : List S2) : (tRows t).length = t.length := by simp [tRows]
theorem tRows_get {t : List S2} {j : Nat} (h : j < t.length) (d : S2) : (tRows t).getD j [] = [i64 (t.getD j d).1, i64 (t.getD j d).2] := by
  simp [tRows, List.getD, List.getElem?_eq_getElem h]
theorem tRows_take (t : List S2) (n : Nat) : (tRows t).take n = tRows (t.take n) := by simp [tRows]
theorem tRows_snoc (t : List S2) (a b : Int) : tRows t ++ [[i64 a, i64 b]] = tRows (t ++ [(a, b)]) := by simp [tRows]

set_option maxRecDepth 20000 in
set_option maxHeartbeats 32000000 in
theorem c_Alike {L k m : Nat} {N M : List (List Int)} (h : NOk L k N) (g : NOk L m M) (s1 s2 a b : Nat) (ha : a < k) (hb : b < m) (F G : List Bool) (hF : F.length = k) (hG : G.length = m) (hL : L ≤ 4) (hk : 1 ≤ k ∧ k ≤ 100) (hm : 1 ≤ m ∧ m ≤ 100) :
    Contract Try.prog 9 [dfaD L s1 F N, dfaD L s2 G M, i64 a, i64 b] (bo (srch (ch2 N M) ((a : Int), (b : Int)) L (fin2 F G) 20000 0).isNone) [] := by
  refine contract_of_awp (rs := [8]) Try.func9 rfl Try.ntmps9 (by simp) rfl fun E => ?_
  have hl := h.len
  have hl2 := g.len
  have hkm : (k + 1) * (m + 1) ≤ 101 * 101 := Nat.mul_le_mul (by omega) (by omega)
  obtain ⟨q1, q2, _⟩ := differ_spec h g ha hb (by omega) F G
  generalize srch (ch2 N M) ((a : Int), (b : Int)) L (fin2 F G) 20000 0 = R at *
  have w1 : IntKind.i64.wrap ((k : Int) + 1) = ((k + 1 : Nat) : Int) := i64_in (by omega) (by omega)
  have w2 : IntKind.i64.wrap ((m : Int) + 1) = ((m + 1 : Nat) : Int) := i64_in (by omega) (by omega)
  obtain ⟨B, hB⟩ : ∃ B, B = (k + 1) * (m + 1) := ⟨_, rfl⟩
  have w3 : IntKind.i64.wrap (((k + 1 : Nat) : Int) * ((m + 1 : Nat) : Int)) = (B : Int) := by
    rw [hB, ← Int.natCast_mul]
    exact i64_in (by omega) (by omega)
  have n1 : List.replicate B (List.map ofAtom (Value.bool false).cells.toList) = bos (List.replicate B false) := by
    simp only [bos, List.map_replicate]; rfl
  (repeat (first | refine awp_seq ?_ | refine awp_block ?_ | ((first | refine awp_skip ?_ | refine awp_exit ?_ | refine awp_reg ttok ?_ | (refine awp_draw ttok ?dr_calm ?_; (case dr_calm => decide +kernel)) | refine awp_condM ?_); simp (maxSteps := 4000000) only [↓reduceIte, Nat.reduceLT, Nat.reduceEqDiff, reduceCtorEq, Nat.reduceAdd, Nat.reduceMul, Int.reduceLE, Int.reduceLT, Int.reduceToNat, Nat.reduceLeDiff, Nat.reduceSub, Int.reduceEq, Nat.reduceBEq, List.replicate, List.set, if_false, if_true, ne_eq, false_implies, implies_true, evA, tyA, dfaD, iis_len, hl, hl2, w1, w2, w3, n1]; (repeat (with_reducible refine And.intro ?_ ?_; focus ((repeat' with_reducible apply And.intro) <;> (first | omega | with_reducible trivial | with_reducible assumption)))); (with_reducible first | refine awp_id ?_ | refine id_call ?_ | refine id_and ?_ | refine id_ex ?_ | refine id_all ?_ | refine id_nat ?_ | refine id_le ?_))))
  refine awp_drawG ttok ((0, none) :: (1, none) :: (2, none) :: (3, none) :: (4, none) :: (5, none) :: (6, none) :: (7, none) :: (8, none) :: (9, none) :: []) (0 :: 1 :: 2 :: 3 :: 4 :: 5 :: 6 :: 7 :: 8 :: 9 :: []) (0 :: 1 :: 2 :: 3 :: 4 :: 5 :: 6 :: 8 :: 7 :: 9 :: []) (by decide +kernel) fun O hO => ?_; simp only [OpsAre, Nat.reduceAdd, and_true, List.toList_toArray, List.append_eq, List.cons_append, List.nil_append] at hO; simp (maxSteps := 4000000) only [↓reduceIte, Nat.reduceLT, Nat.reduceEqDiff, reduceCtorEq, Nat.reduceAdd, Nat.reduceMul, Int.reduceLE, Int.reduceLT, Int.reduceToNat, Nat.reduceLeDiff, Nat.reduceSub, Int.reduceEq, Nat.reduceBEq, List.replicate, List.set, if_false, if_true, ne_eq, false_implies, implies_true, evA, tyA, hO, iis_len, hl, hl2, w1, w2]; (repeat (with_reducible refine And.intro ?_ ?_; focus ((repeat' with_reducible apply And.intro) <;> (first | omega | with_reducible trivial | with_reducible assumption))))
  (repeat (first | refine awp_seq ?_ | refine awp_block ?_ | ((first | refine awp_skip ?_ | refine awp_exit ?_ | refine awp_reg ttok ?_ | (refine awp_draw ttok ?dr_calm ?_; (case dr_calm => decide +kernel)) | refine awp_condM ?_); simp (maxSteps := 4000000) only [↓reduceIte, Nat.reduceLT, Nat.reduceEqDiff, reduceCtorEq, Nat.reduceAdd, Nat.reduceMul, Int.reduceLE, Int.reduceLT, Int.reduceToNat, Nat.reduceLeDiff, Nat.reduceSub, Int.reduceEq, Nat.reduceBEq, List.replicate, List.set, if_false, if_true, ne_eq, false_implies, implies_true, evA, tyA, w3, n1]; (repeat (with_reducible refine And.intro ?_ ?_; focus ((repeat' with_reducible apply And.intro) <;> (first | omega | with_reducible trivial | with_reducible assumption)))); (with_reducible first | refine awp_id ?_ | refine id_call ?_ | refine id_and ?_ | refine id_ex ?_ | refine id_all ?_ | refine id_nat ?_ | refine id_le ?_))))
  refine awp_loop (X := Nat × List S2 × List Bool) (fun x => mkS 121 [(4, .ptr 1000 0 0), (5, .ptr 1001 0 0), (9, i64 (k + 1 : Nat)), (10, i64 (m + 1 : Nat)), (11, .own 3003 0 B), (12, .own 4003 0 x.2.1.length), (13, i64 x.1)]
      [(1000, { sz := 4, rows := [[i64 L, i64 s1, .sl false (bos F), .sl false (iis N)]], flat := false }), (1001, { sz := 4, rows := [[i64 L, i64 s2, .sl false (bos G), .sl false (iis M)]], flat := false }), (3003, { sz := 1, rows := bos x.2.2 }), (4003, { sz := 2, rows := tRows x.2.1 })])
    (fun x => AInv L k m F G N M a b x.2.1 x.2.2 x.1) (fun x => 50000 - x.1) (0, [((a : Int), (b : Int))], List.replicate B false) (by rw [hB]; exact AInv.init ha hb) (mkS_le rfl ?_ ?_) ?_
  · simp (maxSteps := 4000000) only [↓reduceIte, Nat.reduceLT, Nat.reduceEqDiff, reduceCtorEq, Nat.reduceAdd, Nat.reduceMul, Int.reduceLE, Int.reduceLT, Int.reduceToNat, Nat.reduceLeDiff, Nat.reduceSub, Int.reduceEq, Nat.reduceBEq, List.replicate, List.set, if_false, if_true, ne_eq, false_implies, implies_true, evA]
    try rfl
  · simp (maxSteps := 4000000) only [↓reduceIte, Nat.reduceLT, Nat.reduceEqDiff, reduceCtorEq, Nat.reduceAdd, Nat.reduceMul, Int.reduceLE, Int.reduceLT, Int.reduceToNat, Nat.reduceLeDiff, Nat.reduceSub, Int.reduceEq, Nat.reduceBEq, List.replicate, List.set, if_false, if_true, ne_eq, false_implies, implies_true, evA, n1]
    try rfl
  · rintro ⟨i, todo, seen⟩ hI
    simp only at hI
    have hcl := List.count_le_length (a := true) (l := seen)
    have hlen := hI.len
    rw [← hB] at hlen hkm
    have hbd : todo.length ≤ 50000 := by
      have := hI.bound
      have : L * seen.count true ≤ 4 * (101 * 101) := Nat.mul_le_mul hL (by omega)
      omega
    have hat := hI.at_
    by_cases hi : i < todo.length
    · have d1 : decide ((i : Int) < (todo.length : Int)) = true := by simpa using hi
      have hg := tRows_get hi (-1, -1)
      have hskip := hI.skip hi
      have htake := hI.take h g hi
      obtain ⟨hin, u, hu, hlf⟩ := hI.come _ (getD_mem hi (-1, -1))
      have hix := ix_lt hin
      rw [← hB] at hix
      generalize hp : todo.getD i (-1, -1) = p at *
      obtain ⟨p1, p2⟩ := p
      obtain ⟨r1, r2, r3, r4⟩ := hin
      simp only at hg r1 r2 r3 r4
      obtain ⟨Y, hY⟩ : ∃ Y, Y = ix m (p1, p2) := ⟨_, rfl⟩
      have hYe : Y = (p1 + 1).toNat * (m + 1) + (p2 + 1).toNat := hY
      rw [← hY] at hskip htake hix
      obtain ⟨P, hP⟩ : ∃ P : Nat, P = (p1 + 1).toNat := ⟨_, rfl⟩
      have hPm : P * (m + 1) ≤ 100 * 101 := Nat.mul_le_mul (by omega) (by omega)
      have v1 : IntKind.i64.wrap (p1 + 1) = (P : Int) := by rw [i64_in (by omega) (by omega)]; omega
      have v2 : IntKind.i64.wrap ((P : Int) * ((m + 1 : Nat) : Int)) = ((P * (m + 1) : Nat) : Int) := by rw [← Int.natCast_mul]; exact i64_in (by omega) (by omega)
      rw [← hP] at hYe
      obtain ⟨A, hA⟩ : ∃ A, A = P * (m + 1) := ⟨_, rfl⟩
      rw [← hA] at v2 hYe hPm
      have v3 : IntKind.i64.wrap ((A : Int) + p2) = (A : Int) + p2 := i64_in (by omega) (by omega)
      have v4 : IntKind.i64.wrap ((A : Int) + p2 + 1) = (Y : Int) := by rw [i64_in (by omega) (by omega)]; omega
      have hgs := bos_get (l := seen) (i := Y) (by omega)
      cases hsn : seen.getD Y false
      · rw [hsn] at hgs
        have htake := htake hsn
        have hset : (bos seen).set Y [D.v (Value.bool true)] = bos (seen.set Y true) := bos_set _ _ _
        have hgk : ∀ y : Nat, p1 = (y : Int) → (bos F).getD y [] = [bo (F.getD y false)] := fun y hy => bos_get (by omega)
        have hgm : ∀ y : Nat, p2 = (y : Int) → (bos G).getD y [] = [bo (G.getD y false)] := fun y hy => bos_get (by omega)
        have e1 : finS F p1 = (decide (0 ≤ p1) && F.getD p1.toNat false) := rfl
        have e2 : finS G p2 = (decide (0 ≤ p2) && G.getD p2.toNat false) := rfl
        (repeat (first | refine awp_seq ?_ | refine awp_block ?_ | ((first | refine awp_skip ?_ | refine awp_exit ?_ | refine awp_reg ttok ?_ | (refine awp_draw ttok ?dr_calm ?_; (case dr_calm => decide +kernel)) | refine awp_condM ?_); simp (maxSteps := 4000000) only [↓reduceIte, Nat.reduceLT, Nat.reduceEqDiff, reduceCtorEq, Nat.reduceAdd, Nat.reduceMul, Int.reduceLE, Int.reduceLT, Int.reduceToNat, Nat.reduceLeDiff, Nat.reduceSub, Int.reduceEq, Nat.reduceBEq, List.replicate, List.set, if_false, if_true, ne_eq, false_implies, implies_true, evA, tyA, tRows_len, d1]; (repeat (with_reducible refine And.intro ?_ ?_; focus ((repeat' with_reducible apply And.intro) <;> (first | omega | with_reducible trivial | with_reducible assumption)))); (with_reducible first | refine awp_id ?_ | refine id_call ?_ | refine id_and ?_ | refine id_ex ?_ | refine id_all ?_ | refine id_nat ?_ | refine id_le ?_))))
        refine awp_drawG ttok ((0, none) :: (1, none) :: (2, none) :: (3, none) :: (4, none) :: (5, none) :: (6, none) :: (7, none) :: (8, none) :: (9, none) :: (10, none) :: (11, none) :: []) (0 :: 1 :: 2 :: 3 :: 4 :: 5 :: 6 :: 7 :: 8 :: 9 :: 10 :: 11 :: []) (0 :: 1 :: 2 :: 3 :: 4 :: 10 :: 5 :: 6 :: 7 :: 8 :: 9 :: 11 :: []) (by decide +kernel) fun O hO => ?_; simp only [OpsAre, Nat.reduceAdd, and_true, List.toList_toArray, List.append_eq, List.cons_append, List.nil_append] at hO; simp (maxSteps := 4000000) only [↓reduceIte, Nat.reduceLT, Nat.reduceEqDiff, reduceCtorEq, Nat.reduceAdd, Nat.reduceMul, Int.reduceLE, Int.reduceLT, Int.reduceToNat, Nat.reduceLeDiff, Nat.reduceSub, Int.reduceEq, Nat.reduceBEq, List.replicate, List.set, if_false, if_true, ne_eq, false_implies, implies_true, evA, tyA, hO, tRows_len, hg]; (repeat (with_reducible refine And.intro ?_ ?_; focus ((repeat' with_reducible apply And.intro) <;> (first | omega | with_reducible trivial | with_reducible assumption))))
        ((repeat (first | refine awp_seq ?_ | refine awp_block ?_)); ((first | refine awp_skip ?_ | refine awp_exit ?_ | refine awp_reg ttok ?_ | (refine awp_draw ttok ?dr_calm ?_; (case dr_calm => decide +kernel)) | refine awp_condM ?_); simp (maxSteps := 4000000) only [↓reduceIte, Nat.reduceLT, Nat.reduceEqDiff, reduceCtorEq, Nat.reduceAdd, Nat.reduceMul, Int.reduceLE, Int.reduceLT, Int.reduceToNat, Nat.reduceLeDiff, Nat.reduceSub, Int.reduceEq, Nat.reduceBEq, List.replicate, List.set, if_false, if_true, ne_eq, false_implies, implies_true, evA, tyA, v1, v2, v3, v4, bos_len, hlen, hgs]; (repeat (with_reducible refine And.intro ?_ ?_; focus ((repeat' with_reducible apply And.intro) <;> (first | omega | with_reducible trivial | with_reducible assumption)))); (with_reducible first | refine awp_id ?_ | refine id_call ?_ | refine id_and ?_ | refine id_ex ?_ | refine id_all ?_ | refine id_nat ?_ | refine id_le ?_)))
        ((repeat (first | refine awp_seq ?_ | refine awp_block ?_)); ((first | refine awp_skip ?_ | refine awp_exit ?_ | refine awp_reg ttok ?_ | (refine awp_draw ttok ?dr_calm ?_; (case dr_calm => decide +kernel)) | refine awp_condM ?_); simp (maxSteps := 4000000) only [↓reduceIte, Nat.reduceLT, Nat.reduceEqDiff, reduceCtorEq, Nat.reduceAdd, Nat.reduceMul, Int.reduceLE, Int.reduceLT, Int.reduceToNat, Nat.reduceLeDiff, Nat.reduceSub, Int.reduceEq, Nat.reduceBEq, List.replicate, List.set, if_false, if_true, ne_eq, false_implies, implies_true, evA, tyA, v1, v2, v3, v4, bos_len, hlen, hgs]; (repeat (with_reducible refine And.intro ?_ ?_; focus ((repeat' with_reducible apply And.intro) <;> (first | omega | with_reducible trivial | with_reducible assumption)))); (with_reducible first | refine awp_id ?_ | refine id_call ?_ | refine id_and ?_ | refine id_ex ?_ | refine id_all ?_ | refine id_nat ?_ | refine id_le ?_)))
        ((repeat (first | refine awp_seq ?_ | refine awp_block ?_)); ((first | refine awp_skip ?_ | refine awp_exit ?_ | refine awp_reg ttok ?_ | (refine awp_draw ttok ?dr_calm ?_; (case dr_calm => decide +kernel)) | refine awp_condM ?_); simp (maxSteps := 4000000) only [↓reduceIte, Nat.reduceLT, Nat.reduceEqDiff, reduceCtorEq, Nat.reduceAdd, Nat.reduceMul, Int.reduceLE, Int.reduceLT, Int.reduceToNat, Nat.reduceLeDiff, Nat.reduceSub, Int.reduceEq, Nat.reduceBEq, List.replicate, List.set, if_false, if_true, ne_eq, false_implies, implies_true, evA, tyA, v1, v2, v3, v4, bos_len, hlen, hgs]; (repeat (with_reducible refine And.intro ?_ ?_; focus ((repeat' with_reducible apply And.intro) <;> (first | omega | with_reducible trivial | with_reducible assumption)))); (with_reducible first | refine awp_id ?_ | refine id_call ?_ | refine id_and ?_ | refine id_ex ?_ | refine id_all ?_ | refine id_nat ?_ | refine id_le ?_)))
        ((repeat (first | refine awp_seq ?_ | refine awp_block ?_)); ((first | refine awp_skip ?_ | refine awp_exit ?_ | refine awp_reg ttok ?_ | (refine awp_draw ttok ?dr_calm ?_; (case dr_calm => decide +kernel)) | refine awp_condM ?_); simp (maxSteps := 4000000) only [↓reduceIte, Nat.reduceLT, Nat.reduceEqDiff, reduceCtorEq, Nat.reduceAdd, Nat.reduceMul, Int.reduceLE, Int.reduceLT, Int.reduceToNat, Nat.reduceLeDiff, Nat.reduceSub, Int.reduceEq, Nat.reduceBEq, List.replicate, List.set, if_false, if_true, ne_eq, false_implies, implies_true, evA, tyA, v1, v2, v3, v4, bos_len, hlen, hgs]; (repeat (with_reducible refine And.intro ?_ ?_; focus ((repeat' with_reducible apply And.intro) <;> (first | omega | with_reducible trivial | with_reducible assumption)))); (with_reducible first | refine awp_id ?_ | refine id_call ?_ | refine id_and ?_ | refine id_ex ?_ | refine id_all ?_ | refine id_nat ?_ | refine id_le ?_)))
        refine awp_seq ?_
        refine awp_joinN (X := Unit) (fun _ => mkS 121 [(4, .ptr 1000 0 0), (5, .ptr 1001 0 0), (9, i64 (k + 1 : Nat)), (10, i64 (m + 1 : Nat)), (11, .own 3003 0 B), (12, .own 4003 0 todo.length), (13, i64 i), (14, i64 p1), (15, i64 p2)]
          [(1000, { sz := 4, rows := [[i64 L, i64 s1, .sl false (bos F), .sl false (iis N)]], flat := false }), (1001, { sz := 4, rows := [[i64 L, i64 s2, .sl false (bos G), .sl false (iis M)]], flat := false }), (3003, { sz := 1, rows := bos (seen.set Y true) }), (4003, { sz := 2, rows := tRows todo })]) (fun _ => finS F p1 = finS G p2) ?_ ?_
        rotate_left
        · refine awp_seq ?_
          have hdif : finS F p1 ≠ finS G p2 → R.isNone = false := fun hne => by
            have h1 := hlf []
            cases R with
            | none =>
              have h2 := q2 rfl u hu
              rw [List.append_nil] at h1
              exact absurd (by rw [finS_nil F N, finS_nil G M, h1.1, h1.2]; simpa using h2) hne
            | some w => rfl
          have fin : ∀ (x y : Bool), finS F p1 = x → finS G p2 = y → (x != y) = true → R.isNone = false := fun x y hx hy hxy => hdif (by rw [hx, hy]; simpa using hxy)
          have n88 : ∀ x y : Bool, (!(x == y)) = (x != y) := fun _ _ => rfl
          by_cases z1 : 0 ≤ p1
          · obtain ⟨y1, rfl⟩ := Int.eq_ofNat_of_zero_le z1
            have f1 : decide (((y1 : Nat) : Int) ≥ 0) = true := by simp
            have f1' : decide (0 ≤ ((y1 : Nat) : Int)) = true := by simp
            have hga := hgk y1 rfl
            rw [f1', Bool.true_and, Int.toNat_natCast] at e1
            generalize F.getD y1 false = A1 at *
            by_cases z2 : 0 ≤ p2
            · obtain ⟨y2, rfl⟩ := Int.eq_ofNat_of_zero_le z2
              have f2 : decide (((y2 : Nat) : Int) ≥ 0) = true := by simp
              have f2' : decide (0 ≤ ((y2 : Nat) : Int)) = true := by simp
              have hgb := hgm y2 rfl
              rw [f2', Bool.true_and, Int.toNat_natCast] at e2
              generalize G.getD y2 false = A2 at *
              refine awp_drawG ttok ((0, none) :: (1, none) :: (2, none) :: (3, none) :: (4, none) :: (5, none) :: (6, none) :: (7, none) :: (8, none) :: (9, none) :: (10, none) :: (11, none) :: (12, none) :: (13, none) :: (14, none) :: (15, none) :: (16, none) :: (17, none) :: (18, none) :: []) ([]) ([]) (by decide +kernel) fun O hO => ?_; simp only [OpsAre, Nat.reduceAdd, and_true, List.toList_toArray, List.append_eq, List.cons_append, List.nil_append] at hO; simp (maxSteps := 4000000) only [↓reduceIte, Nat.reduceLT, Nat.reduceEqDiff, reduceCtorEq, Nat.reduceAdd, Nat.reduceMul, Int.reduceLE, Int.reduceLT, Int.reduceToNat, Nat.reduceLeDiff, Nat.reduceSub, Int.reduceEq, Nat.reduceBEq, List.replicate, List.set, if_false, if_true, ne_eq, false_implies, implies_true, evA, tyA, hO, f1, f2, hga, hgb, bos_len, hF, hG]; (repeat (with_reducible refine And.intro ?_ ?_; focus ((repeat' with_reducible apply And.intro) <;> (first | omega | with_reducible trivial | with_reducible assumption))))
              cases hAA : (A1 != A2)
              · have hA2 : (!(A1 == A2)) = false := hAA
                (repeat (first | refine awp_seq ?_ | refine awp_block ?_ | ((first | refine awp_skip ?_ | refine awp_exit ?_ | refine awp_reg ttok ?_ | (refine awp_draw ttok ?dr_calm ?_; (case dr_calm => decide +kernel)) | refine awp_condM ?_); simp (maxSteps := 4000000) only [↓reduceIte, Nat.reduceLT, Nat.reduceEqDiff, reduceCtorEq, Nat.reduceAdd, Nat.reduceMul, Int.reduceLE, Int.reduceLT, Int.reduceToNat, Nat.reduceLeDiff, Nat.reduceSub, Int.reduceEq, Nat.reduceBEq, List.replicate, List.set, if_false, if_true, ne_eq, false_implies, implies_true, evA, tyA, hAA, hA2, joinN]; (repeat (with_reducible refine And.intro ?_ ?_; focus ((repeat' with_reducible apply And.intro) <;> (first | omega | with_reducible trivial | with_reducible assumption)))); (with_reducible first | refine awp_id ?_ | refine id_call ?_ | refine id_and ?_ | refine id_ex ?_ | refine id_all ?_ | refine id_nat ?_ | refine id_le ?_))))
                refine ⟨(), (by rw [e1, e2]; simpa using hAA), mkS_le rfl ?_ ?_⟩
                · simp (maxSteps := 4000000) only [↓reduceIte, Nat.reduceLT, Nat.reduceEqDiff, reduceCtorEq, Nat.reduceAdd, Nat.reduceMul, Int.reduceLE, Int.reduceLT, Int.reduceToNat, Nat.reduceLeDiff, Nat.reduceSub, Int.reduceEq, Nat.reduceBEq, List.replicate, List.set, if_false, if_true, ne_eq, false_implies, implies_true, evA]
                · simp (maxSteps := 4000000) only [↓reduceIte, Nat.reduceLT, Nat.reduceEqDiff, reduceCtorEq, Nat.reduceAdd, Nat.reduceMul, Int.reduceLE, Int.reduceLT, Int.reduceToNat, Nat.reduceLeDiff, Nat.reduceSub, Int.reduceEq, Nat.reduceBEq, List.replicate, List.set, if_false, if_true, ne_eq, false_implies, implies_true, evA, hgs, hset]
              · have hA2 : (!(A1 == A2)) = true := hAA
                have hRn := fin _ _ e1 e2 hAA
                (repeat (first | refine awp_seq ?_ | refine awp_block ?_ | ((first | refine awp_skip ?_ | refine awp_exit ?_ | refine awp_reg ttok ?_ | (refine awp_draw ttok ?dr_calm ?_; (case dr_calm => decide +kernel)) | refine awp_condM ?_); simp (maxSteps := 4000000) only [↓reduceIte, Nat.reduceLT, Nat.reduceEqDiff, reduceCtorEq, Nat.reduceAdd, Nat.reduceMul, Int.reduceLE, Int.reduceLT, Int.reduceToNat, Nat.reduceLeDiff, Nat.reduceSub, Int.reduceEq, Nat.reduceBEq, List.replicate, List.set, if_false, if_true, ne_eq, false_implies, implies_true, evA, tyA, hAA, hA2, joinN]; (repeat (with_reducible refine And.intro ?_ ?_; focus ((repeat' with_reducible apply And.intro) <;> (first | omega | with_reducible trivial | with_reducible assumption)))); (with_reducible first | refine awp_id ?_ | refine id_call ?_ | refine id_and ?_ | refine id_ex ?_ | refine id_all ?_ | refine id_nat ?_ | refine id_le ?_))))
                exact awp_ret (ends_plain (.inr rfl) rfl (by simp (maxSteps := 4000000) only [↓reduceIte, Nat.reduceLT, Nat.reduceEqDiff, reduceCtorEq, Nat.reduceAdd, Nat.reduceMul, Int.reduceLE, Int.reduceLT, Int.reduceToNat, Nat.reduceLeDiff, Nat.reduceSub, Int.reduceEq, Nat.reduceBEq, List.replicate, List.set, if_false, if_true, ne_eq, false_implies, implies_true, evA, hRn]))
            · have f2 : decide (p2 ≥ 0) = false := by simpa using z2
              have f2' : decide (0 ≤ p2) = false := by simpa using z2
              rw [f2', Bool.false_and] at e2
              refine awp_drawG ttok ((0, none) :: (1, none) :: (2, none) :: (3, none) :: (4, none) :: (5, none) :: (6, none) :: (7, none) :: (8, none) :: (9, none) :: (10, none) :: (11, none) :: (12, none) :: (13, none) :: (14, none) :: (15, none) :: (16, none) :: (17, none) :: (18, none) :: []) ([]) ([]) (by decide +kernel) fun O hO => ?_; simp only [OpsAre, Nat.reduceAdd, and_true, List.toList_toArray, List.append_eq, List.cons_append, List.nil_append] at hO; simp (maxSteps := 4000000) only [↓reduceIte, Nat.reduceLT, Nat.reduceEqDiff, reduceCtorEq, Nat.reduceAdd, Nat.reduceMul, Int.reduceLE, Int.reduceLT, Int.reduceToNat, Nat.reduceLeDiff, Nat.reduceSub, Int.reduceEq, Nat.reduceBEq, List.replicate, List.set, if_false, if_true, ne_eq, false_implies, implies_true, evA, tyA, hO, f1, f2, hga, bos_len, hF]; (repeat (with_reducible refine And.intro ?_ ?_; focus ((repeat' with_reducible apply And.intro) <;> (first | omega | with_reducible trivial | with_reducible assumption))))
              cases A1
              · (repeat (first | refine awp_seq ?_ | refine awp_block ?_ | ((first | refine awp_skip ?_ | refine awp_exit ?_ | refine awp_reg ttok ?_ | (refine awp_draw ttok ?dr_calm ?_; (case dr_calm => decide +kernel)) | refine awp_condM ?_); simp (maxSteps := 4000000) only [↓reduceIte, Nat.reduceLT, Nat.reduceEqDiff, reduceCtorEq, Nat.reduceAdd, Nat.reduceMul, Int.reduceLE, Int.reduceLT, Int.reduceToNat, Nat.reduceLeDiff, Nat.reduceSub, Int.reduceEq, Nat.reduceBEq, List.replicate, List.set, if_false, if_true, ne_eq, false_implies, implies_true, evA, tyA, joinN]; (repeat (with_reducible refine And.intro ?_ ?_; focus ((repeat' with_reducible apply And.intro) <;> (first | omega | with_reducible trivial | with_reducible assumption)))); (with_reducible first | refine awp_id ?_ | refine id_call ?_ | refine id_and ?_ | refine id_ex ?_ | refine id_all ?_ | refine id_nat ?_ | refine id_le ?_))))
                refine ⟨(), (by rw [e1, e2]), mkS_le rfl ?_ ?_⟩
                · simp (maxSteps := 4000000) only [↓reduceIte, Nat.reduceLT, Nat.reduceEqDiff, reduceCtorEq, Nat.reduceAdd, Nat.reduceMul, Int.reduceLE, Int.reduceLT, Int.reduceToNat, Nat.reduceLeDiff, Nat.reduceSub, Int.reduceEq, Nat.reduceBEq, List.replicate, List.set, if_false, if_true, ne_eq, false_implies, implies_true, evA]
                · simp (maxSteps := 4000000) only [↓reduceIte, Nat.reduceLT, Nat.reduceEqDiff, reduceCtorEq, Nat.reduceAdd, Nat.reduceMul, Int.reduceLE, Int.reduceLT, Int.reduceToNat, Nat.reduceLeDiff, Nat.reduceSub, Int.reduceEq, Nat.reduceBEq, List.replicate, List.set, if_false, if_true, ne_eq, false_implies, implies_true, evA, hgs, hset]
              · have hRn := fin _ _ e1 e2 rfl
                (repeat (first | refine awp_seq ?_ | refine awp_block ?_ | ((first | refine awp_skip ?_ | refine awp_exit ?_ | refine awp_reg ttok ?_ | (refine awp_draw ttok ?dr_calm ?_; (case dr_calm => decide +kernel)) | refine awp_condM ?_); simp (maxSteps := 4000000) only [↓reduceIte, Nat.reduceLT, Nat.reduceEqDiff, reduceCtorEq, Nat.reduceAdd, Nat.reduceMul, Int.reduceLE, Int.reduceLT, Int.reduceToNat, Nat.reduceLeDiff, Nat.reduceSub, Int.reduceEq, Nat.reduceBEq, List.replicate, List.set, if_false, if_true, ne_eq, false_implies, implies_true, evA, tyA, joinN]; (repeat (with_reducible refine And.intro ?_ ?_; focus ((repeat' with_reducible apply And.intro) <;> (first | omega | with_reducible trivial | with_reducible assumption)))); (with_reducible first | refine awp_id ?_ | refine id_call ?_ | refine id_and ?_ | refine id_ex ?_ | refine id_all ?_ | refine id_nat ?_ | refine id_le ?_))))
                exact awp_ret (ends_plain (.inr rfl) rfl (by simp (maxSteps := 4000000) only [↓reduceIte, Nat.reduceLT, Nat.reduceEqDiff, reduceCtorEq, Nat.reduceAdd, Nat.reduceMul, Int.reduceLE, Int.reduceLT, Int.reduceToNat, Nat.reduceLeDiff, Nat.reduceSub, Int.reduceEq, Nat.reduceBEq, List.replicate, List.set, if_false, if_true, ne_eq, false_implies, implies_true, evA, hRn]))
          · have f1 : decide (p1 ≥ 0) = false := by simpa using z1
            have f1' : decide (0 ≤ p1) = false := by simpa using z1
            rw [f1', Bool.false_and] at e1
            by_cases z2 : 0 ≤ p2
            · obtain ⟨y2, rfl⟩ := Int.eq_ofNat_of_zero_le z2
              have f2 : decide (((y2 : Nat) : Int) ≥ 0) = true := by simp
              have f2' : decide (0 ≤ ((y2 : Nat) : Int)) = true := by simp
              have hgb := hgm y2 rfl
              rw [f2', Bool.true_and, Int.toNat_natCast] at e2
              generalize G.getD y2 false = A2 at *
              refine awp_drawG ttok ((0, none) :: (1, none) :: (2, none) :: (3, none) :: (4, none) :: (5, none) :: (6, none) :: (7, none) :: (8, none) :: (9, none) :: (10, none) :: (11, none) :: (12, none) :: (13, none) :: (14, none) :: (15, none) :: (16, none) :: (17, none) :: (18, none) :: []) ([]) ([]) (by decide +kernel) fun O hO => ?_; simp only [OpsAre, Nat.reduceAdd, and_true, List.toList_toArray, List.append_eq, List.cons_append, List.nil_append] at hO; simp (maxSteps := 4000000) only [↓reduceIte, Nat.reduceLT, Nat.reduceEqDiff, reduceCtorEq, Nat.reduceAdd, Nat.reduceMul, Int.reduceLE, Int.reduceLT, Int.reduceToNat, Nat.reduceLeDiff, Nat.reduceSub, Int.reduceEq, Nat.reduceBEq, List.replicate, List.set, if_false, if_true, ne_eq, false_implies, implies_true, evA, tyA, hO, f1, f2, hgb, bos_len, hG]; (repeat (with_reducible refine And.intro ?_ ?_; focus ((repeat' with_reducible apply And.intro) <;> (first | omega | with_reducible trivial | with_reducible assumption))))
              cases A2
              · (repeat (first | refine awp_seq ?_ | refine awp_block ?_ | ((first | refine awp_skip ?_ | refine awp_exit ?_ | refine awp_reg ttok ?_ | (refine awp_draw ttok ?dr_calm ?_; (case dr_calm => decide +kernel)) | refine awp_condM ?_); simp (maxSteps := 4000000) only [↓reduceIte, Nat.reduceLT, Nat.reduceEqDiff, reduceCtorEq, Nat.reduceAdd, Nat.reduceMul, Int.reduceLE, Int.reduceLT, Int.reduceToNat, Nat.reduceLeDiff, Nat.reduceSub, Int.reduceEq, Nat.reduceBEq, List.replicate, List.set, if_false, if_true, ne_eq, false_implies, implies_true, evA, tyA, joinN]; (repeat (with_reducible refine And.intro ?_ ?_; focus ((repeat' with_reducible apply And.intro) <;> (first | omega | with_reducible trivial | with_reducible assumption)))); (with_reducible first | refine awp_id ?_ | refine id_call ?_ | refine id_and ?_ | refine id_ex ?_ | refine id_all ?_ | refine id_nat ?_ | refine id_le ?_))))
                refine ⟨(), (by rw [e1, e2]), mkS_le rfl ?_ ?_⟩
                · simp (maxSteps := 4000000) only [↓reduceIte, Nat.reduceLT, Nat.reduceEqDiff, reduceCtorEq, Nat.reduceAdd, Nat.reduceMul, Int.reduceLE, Int.reduceLT, Int.reduceToNat, Nat.reduceLeDiff, Nat.reduceSub, Int.reduceEq, Nat.reduceBEq, List.replicate, List.set, if_false, if_true, ne_eq, false_implies, implies_true, evA]
                · simp (maxSteps := 4000000) only [↓reduceIte, Nat.reduceLT, Nat.reduceEqDiff, reduceCtorEq, Nat.reduceAdd, Nat.reduceMul, Int.reduceLE, Int.reduceLT, Int.reduceToNat, Nat.reduceLeDiff, Nat.reduceSub, Int.reduceEq, Nat.reduceBEq, List.replicate, List.set, if_false, if_true, ne_eq, false_implies, implies_true, evA, hgs, hset]
              · have hRn := fin _ _ e1 e2 rfl
                (repeat (first | refine awp_seq ?_ | refine awp_block ?_ | ((first | refine awp_skip ?_ | refine awp_exit ?_ | refine awp_reg ttok ?_ | (refine awp_draw ttok ?dr_calm ?_; (case dr_calm => decide +kernel)) | refine awp_condM ?_); simp (maxSteps := 4000000) only [↓reduceIte, Nat.reduceLT, Nat.reduceEqDiff, reduceCtorEq, Nat.reduceAdd, Nat.reduceMul, Int.reduceLE, Int.reduceLT, Int.reduceToNat, Nat.reduceLeDiff, Nat.reduceSub, Int.reduceEq, Nat.reduceBEq, List.replicate, List.set, if_false, if_true, ne_eq, false_implies, implies_true, evA, tyA, joinN]; (repeat (with_reducible refine And.intro ?_ ?_; focus ((repeat' with_reducible apply And.intro) <;> (first | omega | with_reducible trivial | with_reducible assumption)))); (with_reducible first | refine awp_id ?_ | refine id_call ?_ | refine id_and ?_ | refine id_ex ?_ | refine id_all ?_ | refine id_nat ?_ | refine id_le ?_))))
                exact awp_ret (ends_plain (.inr rfl) rfl (by simp (maxSteps := 4000000) only [↓reduceIte, Nat.reduceLT, Nat.reduceEqDiff, reduceCtorEq, Nat.reduceAdd, Nat.reduceMul, Int.reduceLE, Int.reduceLT, Int.reduceToNat, Nat.reduceLeDiff, Nat.reduceSub, Int.reduceEq, Nat.reduceBEq, List.replicate, List.set, if_false, if_true, ne_eq, false_implies, implies_true, evA, hRn]))
            · have f2 : decide (p2 ≥ 0) = false := by simpa using z2
              have f2' : decide (0 ≤ p2) = false := by simpa using z2
              rw [f2', Bool.false_and] at e2
              refine awp_drawG ttok ((0, none) :: (1, none) :: (2, none) :: (3, none) :: (4, none) :: (5, none) :: (6, none) :: (7, none) :: (8, none) :: (9, none) :: (10, none) :: (11, none) :: (12, none) :: (13, none) :: (14, none) :: (15, none) :: (16, none) :: (17, none) :: (18, none) :: []) ([]) ([]) (by decide +kernel) fun O hO => ?_; simp only [OpsAre, Nat.reduceAdd, and_true, List.toList_toArray, List.append_eq, List.cons_append, List.nil_append] at hO; simp (maxSteps := 4000000) only [↓reduceIte, Nat.reduceLT, Nat.reduceEqDiff, reduceCtorEq, Nat.reduceAdd, Nat.reduceMul, Int.reduceLE, Int.reduceLT, Int.reduceToNat, Nat.reduceLeDiff, Nat.reduceSub, Int.reduceEq, Nat.reduceBEq, List.replicate, List.set, if_false, if_true, ne_eq, false_implies, implies_true, evA, tyA, hO, f1, f2]; (repeat (with_reducible refine And.intro ?_ ?_; focus ((repeat' with_reducible apply And.intro) <;> (first | omega | with_reducible trivial | with_reducible assumption))))
              (repeat (first | refine awp_seq ?_ | refine awp_block ?_ | ((first | refine awp_skip ?_ | refine awp_exit ?_ | refine awp_reg ttok ?_ | (refine awp_draw ttok ?dr_calm ?_; (case dr_calm => decide +kernel)) | refine awp_condM ?_); simp (maxSteps := 4000000) only [↓reduceIte, Nat.reduceLT, Nat.reduceEqDiff, reduceCtorEq, Nat.reduceAdd, Nat.reduceMul, Int.reduceLE, Int.reduceLT, Int.reduceToNat, Nat.reduceLeDiff, Nat.reduceSub, Int.reduceEq, Nat.reduceBEq, List.replicate, List.set, if_false, if_true, ne_eq, false_implies, implies_true, evA, tyA, joinN]; (repeat (with_reducible refine And.intro ?_ ?_; focus ((repeat' with_reducible apply And.intro) <;> (first | omega | with_reducible trivial | with_reducible assumption)))); (with_reducible first | refine awp_id ?_ | refine id_call ?_ | refine id_and ?_ | refine id_ex ?_ | refine id_all ?_ | refine id_nat ?_ | refine id_le ?_))))
              refine ⟨(), (by rw [e1, e2]), mkS_le rfl ?_ ?_⟩
              · simp (maxSteps := 4000000) only [↓reduceIte, Nat.reduceLT, Nat.reduceEqDiff, reduceCtorEq, Nat.reduceAdd, Nat.reduceMul, Int.reduceLE, Int.reduceLT, Int.reduceToNat, Nat.reduceLeDiff, Nat.reduceSub, Int.reduceEq, Nat.reduceBEq, List.replicate, List.set, if_false, if_true, ne_eq, false_implies, implies_true, evA]
              · simp (maxSteps := 4000000) only [↓reduceIte, Nat.reduceLT, Nat.reduceEqDiff, reduceCtorEq, Nat.reduceAdd, Nat.reduceMul, Int.reduceLE, Int.reduceLT, Int.reduceToNat, Nat.reduceLeDiff, Nat.reduceSub, Int.reduceEq, Nat.reduceBEq, List.replicate, List.set, if_false, if_true, ne_eq, false_implies, implies_true, evA, hgs, hset]
        intro _ hff
        have htake := htake hff
        (repeat (first | refine awp_seq ?_ | refine awp_block ?_ | ((first | refine awp_skip ?_ | refine awp_exit ?_ | refine awp_reg ttok ?_ | (refine awp_draw ttok ?dr_calm ?_; (case dr_calm => decide +kernel)) | refine awp_condM ?_); simp (maxSteps := 4000000) only [↓reduceIte, Nat.reduceLT, Nat.reduceEqDiff, reduceCtorEq, Nat.reduceAdd, Nat.reduceMul, Int.reduceLE, Int.reduceLT, Int.reduceToNat, Nat.reduceLeDiff, Nat.reduceSub, Int.reduceEq, Nat.reduceBEq, List.replicate, List.set, if_false, if_true, ne_eq, false_implies, implies_true, evA, tyA]; (repeat (with_reducible refine And.intro ?_ ?_; focus ((repeat' with_reducible apply And.intro) <;> (first | omega | with_reducible trivial | with_reducible assumption)))); (with_reducible first | refine awp_id ?_ | refine id_call ?_ | refine id_and ?_ | refine id_ex ?_ | refine id_all ?_ | refine id_nat ?_ | refine id_le ?_))))
        refine awp_loop (X := Nat) (fun c => mkS 121 [(4, .ptr 1000 0 0), (5, .ptr 1001 0 0), (9, i64 (k + 1 : Nat)), (10, i64 (m + 1 : Nat)), (11, .own 3003 0 B), (12, .own 4003 0 (todo ++ kids N M (p1, p2) c).length), (13, i64 i), (14, i64 p1), (15, i64 p2), (16, i64 c)]
          [(1000, { sz := 4, rows := [[i64 L, i64 s1, .sl false (bos F), .sl false (iis N)]], flat := false }), (1001, { sz := 4, rows := [[i64 L, i64 s2, .sl false (bos G), .sl false (iis M)]], flat := false }), (3003, { sz := 1, rows := bos (seen.set Y true) }), (4003, { sz := 2, rows := tRows (todo ++ kids N M (p1, p2) c) })]) (fun c => c ≤ L) (fun c => L - c) 0 (Nat.zero_le _) (mkS_le rfl ?_ ?_) ?_
        · simp (maxSteps := 4000000) only [↓reduceIte, Nat.reduceLT, Nat.reduceEqDiff, reduceCtorEq, Nat.reduceAdd, Nat.reduceMul, Int.reduceLE, Int.reduceLT, Int.reduceToNat, Nat.reduceLeDiff, Nat.reduceSub, Int.reduceEq, Nat.reduceBEq, List.replicate, List.set, if_false, if_true, ne_eq, false_implies, implies_true, evA, kids, List.range_zero, List.map_nil, List.append_nil]
          try rfl
        · simp (maxSteps := 4000000) only [↓reduceIte, Nat.reduceLT, Nat.reduceEqDiff, reduceCtorEq, Nat.reduceAdd, Nat.reduceMul, Int.reduceLE, Int.reduceLT, Int.reduceToNat, Nat.reduceLeDiff, Nat.reduceSub, Int.reduceEq, Nat.reduceBEq, List.replicate, List.set, if_false, if_true, ne_eq, false_implies, implies_true, evA, kids, List.range_zero, List.map_nil, List.append_nil]
          try rfl
        · intro c hc
          by_cases hcl : c < L
          · have d3 : decide ((c : Int) < (L : Int)) = true := by simpa using hcl
            have hwc : IntKind.i64.wrap ((c : Int) + 1) = ((c + 1 : Nat) : Int) := i64_in (by omega) (by omega)
            have hks := kids_succ N M (p1, p2) c
            have hkl := kids_len N M (p1, p2) c
            have hkd : kid N M (p1, p2) c = (toD N p1 c, toD M p2 c) := rfl
            generalize kids N M (p1, p2) c = K at *
            have htl : (todo ++ K).length = todo.length + c := by simp [hkl]
            have htk : List.take (todo.length + c) (todo ++ K) = todo ++ K := List.take_of_length_le (by omega)
            have hsn2 := fun x y => tRows_snoc (todo ++ K) x y
            have rr2 : ∀ d1 d2 : D, (∀ row ∈ [[d1, d2]], row.length = 2) = True := fun _ _ => by simp
            have htl2 : ∀ x, ((todo ++ K) ++ [x]).length = todo.length + c + 1 := fun x => by simp [hkl]; omega
            have hassoc : ∀ x : S2, todo ++ (K ++ [x]) = (todo ++ K) ++ [x] := fun x => (List.append_assoc _ _ _).symm
            have ga : ∀ y : Nat, p1 = (y : Int) → (iis N).getD y [] = [.sl false (ints (N.getD y []))] ∧ (ints (N.getD y [])).getD c [] = [i64 (toD N p1 c)] ∧ (N.getD y []).length = L := fun y hy => by
              have hr := h.get (show y < k by omega)
              refine ⟨iis_get (by omega), ?_, hr.1⟩
              rw [hy, toD_good h (by omega) hcl]; exact ints_get (by omega)
            have gb : ∀ y : Nat, p2 = (y : Int) → (iis M).getD y [] = [.sl false (ints (M.getD y []))] ∧ (ints (M.getD y [])).getD c [] = [i64 (toD M p2 c)] ∧ (M.getD y []).length = L := fun y hy => by
              have hr := g.get (show y < m by omega)
              refine ⟨iis_get (by omega), ?_, hr.1⟩
              rw [hy, toD_good g (by omega) hcl]; exact ints_get (by omega)
            by_cases z1 : 0 ≤ p1
            · obtain ⟨y1, rfl⟩ := Int.eq_ofNat_of_zero_le z1
              have f1 : decide (((y1 : Nat) : Int) ≥ 0) = true := by simp
              obtain ⟨a1, a2, a3⟩ := ga y1 rfl
              by_cases z2 : 0 ≤ p2
              · obtain ⟨y2, rfl⟩ := Int.eq_ofNat_of_zero_le z2
                have f2 : decide (((y2 : Nat) : Int) ≥ 0) = true := by simp
                obtain ⟨b1, b2, b3⟩ := gb y2 rfl
                (repeat (first | refine awp_seq ?_ | refine awp_block ?_ | ((first | refine awp_skip ?_ | refine awp_exit ?_ | refine awp_reg ttok ?_ | (refine awp_draw ttok ?dr_calm ?_; (case dr_calm => decide +kernel)) | refine awp_condM ?_); simp (maxSteps := 4000000) only [↓reduceIte, Nat.reduceLT, Nat.reduceEqDiff, reduceCtorEq, Nat.reduceAdd, Nat.reduceMul, Int.reduceLE, Int.reduceLT, Int.reduceToNat, Nat.reduceLeDiff, Nat.reduceSub, Int.reduceEq, Nat.reduceBEq, List.replicate, List.set, if_false, if_true, ne_eq, false_implies, implies_true, evA, tyA, d3, f1, f2, iis_len, hl, hl2, a1, a2, a3, b1, b2, b3, ints_len, tRows_len, htl, htk, tRows_take, hsn2, rr2, hwc]; (repeat (with_reducible refine And.intro ?_ ?_; focus ((repeat' with_reducible apply And.intro) <;> (first | omega | with_reducible trivial | with_reducible assumption)))); (with_reducible first | refine awp_id ?_ | refine id_call ?_ | refine id_and ?_ | refine id_ex ?_ | refine id_all ?_ | refine id_nat ?_ | refine id_le ?_))))
                refine ⟨c + 1, by omega, by omega, mkS_le rfl ?_ ?_⟩
                · simp (maxSteps := 4000000) only [↓reduceIte, Nat.reduceLT, Nat.reduceEqDiff, reduceCtorEq, Nat.reduceAdd, Nat.reduceMul, Int.reduceLE, Int.reduceLT, Int.reduceToNat, Nat.reduceLeDiff, Nat.reduceSub, Int.reduceEq, Nat.reduceBEq, List.replicate, List.set, if_false, if_true, ne_eq, false_implies, implies_true, evA, hks, hkd, hassoc, htl2, htl]
                · simp (maxSteps := 4000000) only [↓reduceIte, Nat.reduceLT, Nat.reduceEqDiff, reduceCtorEq, Nat.reduceAdd, Nat.reduceMul, Int.reduceLE, Int.reduceLT, Int.reduceToNat, Nat.reduceLeDiff, Nat.reduceSub, Int.reduceEq, Nat.reduceBEq, List.replicate, List.set, if_false, if_true, ne_eq, false_implies, implies_true, evA, hks, hkd, hassoc]
              · have f2 : decide (p2 ≥ 0) = false := by simpa using z2
                have t2 : toD M p2 c = -1 := toD_bad1 M p2 c (.inl (by omega))
                (repeat (first | refine awp_seq ?_ | refine awp_block ?_ | ((first | refine awp_skip ?_ | refine awp_exit ?_ | refine awp_reg ttok ?_ | (refine awp_draw ttok ?dr_calm ?_; (case dr_calm => decide +kernel)) | refine awp_condM ?_); simp (maxSteps := 4000000) only [↓reduceIte, Nat.reduceLT, Nat.reduceEqDiff, reduceCtorEq, Nat.reduceAdd, Nat.reduceMul, Int.reduceLE, Int.reduceLT, Int.reduceToNat, Nat.reduceLeDiff, Nat.reduceSub, Int.reduceEq, Nat.reduceBEq, List.replicate, List.set, if_false, if_true, ne_eq, false_implies, implies_true, evA, tyA, d3, f1, f2, iis_len, hl, hl2, a1, a2, a3, ints_len, tRows_len, htl, htk, tRows_take, hsn2, rr2, hwc]; (repeat (with_reducible refine And.intro ?_ ?_; focus ((repeat' with_reducible apply And.intro) <;> (first | omega | with_reducible trivial | with_reducible assumption)))); (with_reducible first | refine awp_id ?_ | refine id_call ?_ | refine id_and ?_ | refine id_ex ?_ | refine id_all ?_ | refine id_nat ?_ | refine id_le ?_))))
                refine ⟨c + 1, by omega, by omega, mkS_le rfl ?_ ?_⟩
                · simp (maxSteps := 4000000) only [↓reduceIte, Nat.reduceLT, Nat.reduceEqDiff, reduceCtorEq, Nat.reduceAdd, Nat.reduceMul, Int.reduceLE, Int.reduceLT, Int.reduceToNat, Nat.reduceLeDiff, Nat.reduceSub, Int.reduceEq, Nat.reduceBEq, List.replicate, List.set, if_false, if_true, ne_eq, false_implies, implies_true, evA, hks, hkd, hassoc, htl2, htl]
                · simp (maxSteps := 4000000) only [↓reduceIte, Nat.reduceLT, Nat.reduceEqDiff, reduceCtorEq, Nat.reduceAdd, Nat.reduceMul, Int.reduceLE, Int.reduceLT, Int.reduceToNat, Nat.reduceLeDiff, Nat.reduceSub, Int.reduceEq, Nat.reduceBEq, List.replicate, List.set, if_false, if_true, ne_eq, false_implies, implies_true, evA, hks, hkd, hassoc, t2]
            · have f1 : decide (p1 ≥ 0) = false := by simpa using z1
              have t1 : toD N p1 c = -1 := toD_bad1 N p1 c (.inl (by omega))
              by_cases z2 : 0 ≤ p2
              · obtain ⟨y2, rfl⟩ := Int.eq_ofNat_of_zero_le z2
                have f2 : decide (((y2 : Nat) : Int) ≥ 0) = true := by simp
                obtain ⟨b1, b2, b3⟩ := gb y2 rfl
                (repeat (first | refine awp_seq ?_ | refine awp_block ?_ | ((first | refine awp_skip ?_ | refine awp_exit ?_ | refine awp_reg ttok ?_ | (refine awp_draw ttok ?dr_calm ?_; (case dr_calm => decide +kernel)) | refine awp_condM ?_); simp (maxSteps := 4000000) only [↓reduceIte, Nat.reduceLT, Nat.reduceEqDiff, reduceCtorEq, Nat.reduceAdd, Nat.reduceMul, Int.reduceLE, Int.reduceLT, Int.reduceToNat, Nat.reduceLeDiff, Nat.reduceSub, Int.reduceEq, Nat.reduceBEq, List.replicate, List.set, if_false, if_true, ne_eq, false_implies, implies_true, evA, tyA, d3, f1, f2, iis_len, hl, hl2, b1, b2, b3, ints_len, tRows_len, htl, htk, tRows_take, hsn2, rr2, hwc]; (repeat (with_reducible refine And.intro ?_ ?_; focus ((repeat' with_reducible apply And.intro) <;> (first | omega | with_reducible trivial | with_reducible assumption)))); (with_reducible first | refine awp_id ?_ | refine id_call ?_ | refine id_and ?_ | refine id_ex ?_ | refine id_all ?_ | refine id_nat ?_ | refine id_le ?_))))
                refine ⟨c + 1, by omega, by omega, mkS_le rfl ?_ ?_⟩
                · simp (maxSteps := 4000000) only [↓reduceIte, Nat.reduceLT, Nat.reduceEqDiff, reduceCtorEq, Nat.reduceAdd, Nat.reduceMul, Int.reduceLE, Int.reduceLT, Int.reduceToNat, Nat.reduceLeDiff, Nat.reduceSub, Int.reduceEq, Nat.reduceBEq, List.replicate, List.set, if_false, if_true, ne_eq, false_implies, implies_true, evA, hks, hkd, hassoc, htl2, htl]
                · simp (maxSteps := 4000000) only [↓reduceIte, Nat.reduceLT, Nat.reduceEqDiff, reduceCtorEq, Nat.reduceAdd, Nat.reduceMul, Int.reduceLE, Int.reduceLT, Int.reduceToNat, Nat.reduceLeDiff, Nat.reduceSub, Int.reduceEq, Nat.reduceBEq, List.replicate, List.set, if_false, if_true, ne_eq, false_implies, implies_true, evA, hks, hkd, hassoc, t1]
              · have f2 : decide (p2 ≥ 0) = false := by simpa using z2
                have t2 : toD M p2 c = -1 := toD_bad1 M p2 c (.inl (by omega))
                (repeat (first | refine awp_seq ?_ | refine awp_block ?_ | ((first | refine awp_skip ?_ | refine awp_exit ?_ | refine awp_reg ttok ?_ | (refine awp_draw ttok ?dr_calm ?_; (case dr_calm => decide +kernel)) | refine awp_condM ?_); simp (maxSteps := 4000000) only [↓reduceIte, Nat.reduceLT, Nat.reduceEqDiff, reduceCtorEq, Nat.reduceAdd, Nat.reduceMul, Int.reduceLE, Int.reduceLT, Int.reduceToNat, Nat.reduceLeDiff, Nat.reduceSub, Int.reduceEq, Nat.reduceBEq, List.replicate, List.set, if_false, if_true, ne_eq, false_implies, implies_true, evA, tyA, d3, f1, f2, tRows_len, htl, htk, tRows_take, hsn2, rr2, hwc]; (repeat (with_reducible refine And.intro ?_ ?_; focus ((repeat' with_reducible apply And.intro) <;> (first | omega | with_reducible trivial | with_reducible assumption)))); (with_reducible first | refine awp_id ?_ | refine id_call ?_ | refine id_and ?_ | refine id_ex ?_ | refine id_all ?_ | refine id_nat ?_ | refine id_le ?_))))
                refine ⟨c + 1, by omega, by omega, mkS_le rfl ?_ ?_⟩
                · simp (maxSteps := 4000000) only [↓reduceIte, Nat.reduceLT, Nat.reduceEqDiff, reduceCtorEq, Nat.reduceAdd, Nat.reduceMul, Int.reduceLE, Int.reduceLT, Int.reduceToNat, Nat.reduceLeDiff, Nat.reduceSub, Int.reduceEq, Nat.reduceBEq, List.replicate, List.set, if_false, if_true, ne_eq, false_implies, implies_true, evA, hks, hkd, hassoc, htl2, htl]
                · simp (maxSteps := 4000000) only [↓reduceIte, Nat.reduceLT, Nat.reduceEqDiff, reduceCtorEq, Nat.reduceAdd, Nat.reduceMul, Int.reduceLE, Int.reduceLT, Int.reduceToNat, Nat.reduceLeDiff, Nat.reduceSub, Int.reduceEq, Nat.reduceBEq, List.replicate, List.set, if_false, if_true, ne_eq, false_implies, implies_true, evA, hks, hkd, hassoc, t1, t2]
          · have d3 : decide ((c : Int) < (L : Int)) = false := by simpa using hcl
            obtain rfl : c = L := by omega
            have hwi : IntKind.i64.wrap ((i : Int) + 1) = ((i + 1 : Nat) : Int) := i64_in (by omega) (by omega)
            (repeat (first | refine awp_seq ?_ | refine awp_block ?_ | ((first | refine awp_skip ?_ | refine awp_exit ?_ | refine awp_reg ttok ?_ | (refine awp_draw ttok ?dr_calm ?_; (case dr_calm => decide +kernel)) | refine awp_condM ?_); simp (maxSteps := 4000000) only [↓reduceIte, Nat.reduceLT, Nat.reduceEqDiff, reduceCtorEq, Nat.reduceAdd, Nat.reduceMul, Int.reduceLE, Int.reduceLT, Int.reduceToNat, Nat.reduceLeDiff, Nat.reduceSub, Int.reduceEq, Nat.reduceBEq, List.replicate, List.set, if_false, if_true, ne_eq, false_implies, implies_true, evA, tyA, d3, hwi]; (repeat (with_reducible refine And.intro ?_ ?_; focus ((repeat' with_reducible apply And.intro) <;> (first | omega | with_reducible trivial | with_reducible assumption)))); (with_reducible first | refine awp_id ?_ | refine id_call ?_ | refine id_and ?_ | refine id_ex ?_ | refine id_all ?_ | refine id_nat ?_ | refine id_le ?_))))
            refine ⟨(i + 1, todo ++ kids N M (p1, p2) c, seen.set Y true), htake, by simp only; omega, mkS_le rfl ?_ ?_⟩
            · simp (maxSteps := 4000000) only [↓reduceIte, Nat.reduceLT, Nat.reduceEqDiff, reduceCtorEq, Nat.reduceAdd, Nat.reduceMul, Int.reduceLE, Int.reduceLT, Int.reduceToNat, Nat.reduceLeDiff, Nat.reduceSub, Int.reduceEq, Nat.reduceBEq, List.replicate, List.set, if_false, if_true, ne_eq, false_implies, implies_true, evA]
            · simp (maxSteps := 4000000) only [↓reduceIte, Nat.reduceLT, Nat.reduceEqDiff, reduceCtorEq, Nat.reduceAdd, Nat.reduceMul, Int.reduceLE, Int.reduceLT, Int.reduceToNat, Nat.reduceLeDiff, Nat.reduceSub, Int.reduceEq, Nat.reduceBEq, List.replicate, List.set, if_false, if_true, ne_eq, false_implies, implies_true, evA]
      · rw [hsn] at hgs
        have hwi : IntKind.i64.wrap ((i : Int) + 1) = ((i + 1 : Nat) : Int) := i64_in (by omega) (by omega)
        (repeat (first | refine awp_seq ?_ | refine awp_block ?_ | ((first | refine awp_skip ?_ | refine awp_exit ?_ | refine awp_reg ttok ?_ | (refine awp_draw ttok ?dr_calm ?_; (case dr_calm => decide +kernel)) | refine awp_condM ?_); simp (maxSteps := 4000000) only [↓reduceIte, Nat.reduceLT, Nat.reduceEqDiff, reduceCtorEq, Nat.reduceAdd, Nat.reduceMul, Int.reduceLE, Int.reduceLT, Int.reduceToNat, Nat.reduceLeDiff, Nat.reduceSub, Int.reduceEq, Nat.reduceBEq, List.replicate, List.set, if_false, if_true, ne_eq, false_implies, implies_true, evA, tyA, tRows_len, d1]; (repeat (with_reducible refine And.intro ?_ ?_; focus ((repeat' with_reducible apply And.intro) <;> (first | omega | with_reducible trivial | with_reducible assumption)))); (with_reducible first | refine awp_id ?_ | refine id_call ?_ | refine id_and ?_ | refine id_ex ?_ | refine id_all ?_ | refine id_nat ?_ | refine id_le ?_))))
        refine awp_drawG ttok ((0, none) :: (1, none) :: (2, none) :: (3, none) :: (4, none) :: (5, none) :: (6, none) :: (7, none) :: (8, none) :: (9, none) :: (10, none) :: (11, none) :: []) (0 :: 1 :: 2 :: 3 :: 4 :: 5 :: 6 :: 7 :: 8 :: 9 :: 10 :: 11 :: []) (0 :: 1 :: 2 :: 3 :: 4 :: 10 :: 5 :: 6 :: 7 :: 8 :: 9 :: 11 :: []) (by decide +kernel) fun O hO => ?_; simp only [OpsAre, Nat.reduceAdd, and_true, List.toList_toArray, List.append_eq, List.cons_append, List.nil_append] at hO; simp (maxSteps := 4000000) only [↓reduceIte, Nat.reduceLT, Nat.reduceEqDiff, reduceCtorEq, Nat.reduceAdd, Nat.reduceMul, Int.reduceLE, Int.reduceLT, Int.reduceToNat, Nat.reduceLeDiff, Nat.reduceSub, Int.reduceEq, Nat.reduceBEq, List.replicate, List.set, if_false, if_true, ne_eq, false_implies, implies_true, evA, tyA, hO, tRows_len, hg]; (repeat (with_reducible refine And.intro ?_ ?_; focus ((repeat' with_reducible apply And.intro) <;> (first | omega | with_reducible trivial | with_reducible assumption))))
        (repeat (first | refine awp_seq ?_ | refine awp_block ?_ | ((first | refine awp_skip ?_ | refine awp_exit ?_ | refine awp_reg ttok ?_ | (refine awp_draw ttok ?dr_calm ?_; (case dr_calm => decide +kernel)) | refine awp_condM ?_); simp (maxSteps := 4000000) only [↓reduceIte, Nat.reduceLT, Nat.reduceEqDiff, reduceCtorEq, Nat.reduceAdd, Nat.reduceMul, Int.reduceLE, Int.reduceLT, Int.reduceToNat, Nat.reduceLeDiff, Nat.reduceSub, Int.reduceEq, Nat.reduceBEq, List.replicate, List.set, if_false, if_true, ne_eq, false_implies, implies_true, evA, tyA, v1, v2, v3, v4, bos_len, hlen, hgs, hwi]; (repeat (with_reducible refine And.intro ?_ ?_; focus ((repeat' with_reducible apply And.intro) <;> (first | omega | with_reducible trivial | with_reducible assumption)))); (with_reducible first | refine awp_id ?_ | refine id_call ?_ | refine id_and ?_ | refine id_ex ?_ | refine id_all ?_ | refine id_nat ?_ | refine id_le ?_))))
        refine ⟨(i + 1, todo, seen), hskip hsn, by simp only; omega, mkS_le rfl ?_ ?_⟩
        · simp (maxSteps := 4000000) only [↓reduceIte, Nat.reduceLT, Nat.reduceEqDiff, reduceCtorEq, Nat.reduceAdd, Nat.reduceMul, Int.reduceLE, Int.reduceLT, Int.reduceToNat, Nat.reduceLeDiff, Nat.reduceSub, Int.reduceEq, Nat.reduceBEq, List.replicate, List.set, if_false, if_true, ne_eq, false_implies, implies_true, evA]
        · simp (maxSteps := 4000000) only [↓reduceIte, Nat.reduceLT, Nat.reduceEqDiff, reduceCtorEq, Nat.reduceAdd, Nat.reduceMul, Int.reduceLE, Int.reduceLT, Int.reduceToNat, Nat.reduceLeDiff, Nat.reduceSub, Int.reduceEq, Nat.reduceBEq, List.replicate, List.set, if_false, if_true, ne_eq, false_implies, implies_true, evA]
    · have d1 : decide ((i : Int) < (todo.length : Int)) = false := by simpa using hi
      obtain rfl : i = todo.length := by omega
      have hend := hI.end_
      cases R with
      | none =>
        (repeat (first | refine awp_seq ?_ | refine awp_block ?_ | ((first | refine awp_skip ?_ | refine awp_exit ?_ | refine awp_reg ttok ?_ | (refine awp_draw ttok ?dr_calm ?_; (case dr_calm => decide +kernel)) | refine awp_condM ?_); simp (maxSteps := 4000000) only [↓reduceIte, Nat.reduceLT, Nat.reduceEqDiff, reduceCtorEq, Nat.reduceAdd, Nat.reduceMul, Int.reduceLE, Int.reduceLT, Int.reduceToNat, Nat.reduceLeDiff, Nat.reduceSub, Int.reduceEq, Nat.reduceBEq, List.replicate, List.set, if_false, if_true, ne_eq, false_implies, implies_true, evA, tyA, tRows_len, d1]; (repeat (with_reducible refine And.intro ?_ ?_; focus ((repeat' with_reducible apply And.intro) <;> (first | omega | with_reducible trivial | with_reducible assumption)))); (with_reducible first | refine awp_id ?_ | refine id_call ?_ | refine id_and ?_ | refine id_ex ?_ | refine id_all ?_ | refine id_nat ?_ | refine id_le ?_))))
        exact awp_ret (ends_plain (.inr rfl) rfl (by simp (maxSteps := 4000000) only [↓reduceIte, Nat.reduceLT, Nat.reduceEqDiff, reduceCtorEq, Nat.reduceAdd, Nat.reduceMul, Int.reduceLE, Int.reduceLT, Int.reduceToNat, Nat.reduceLeDiff, Nat.reduceSub, Int.reduceEq, Nat.reduceBEq, List.replicate, List.set, if_false, if_true, ne_eq, false_implies, implies_true, evA, Option.isNone_none]))
      | some w =>
        obtain ⟨c1, c2, _⟩ := q1 w rfl
        have := hend w c1 _ hI.first
        simp only at this
        rw [this] at c2
        simp at c2

end Go.Proofs.Ytcfnbofapjgepaa
