/-
  The contract of frame.All.
-/
import Derived.Test.YtmfonlkigjpjcaaFrLaw
namespace Go.Proofs.Ytmfonlkigjpjcaa
open Go.Ab
set_option linter.unusedSimpArgs false
set_option linter.unusedVariables false

/-- Slices of bytes, as rows. -/
def bss (l : List (List UInt8)) : List (List D) := l.map fun x => [.sl false (bys x)]
theorem bss_len (l : List (List UInt8)) : (bss l).length = l.length := by simp [bss]
theorem bss_row (l : List (List UInt8)) : (∀ row ∈ bss l, row.length = 1) = True := by simp [bss]
theorem bss_get {l : List (List UInt8)} {i : Nat} (h : i < l.length) : (bss l).getD i [] = [.sl false (bys (l.getD i []))] := by
  simp [bss, List.getD, List.getElem?_eq_getElem h]
theorem bss_app (l m : List (List UInt8)) : bss l ++ bss m = bss (l ++ m) := by simp [bss]
theorem bss_one (z : List UInt8) : [[D.sl false (bys z)]] = bss [z] := rfl
theorem bss_take (l : List (List UInt8)) (k : Nat) : (bss l).take k = bss (l.take k) := by simp [bss]

/-- Frames, one behind the other. -/
def frs (xs : List (List UInt8)) : List UInt8 := xs.flatMap frameOf
theorem frs_snoc (xs : List (List UInt8)) (y : List UInt8) : frs (xs ++ [y]) = frs xs ++ frameOf y := by simp [frs]
theorem frs_len (xs : List (List UInt8)) (h : ∀ x ∈ xs, x.length ≤ 400) : (frs xs).length ≤ 407 * xs.length := by
  induction xs with
  | nil => simp [frs]
  | cons x xs ih =>
    have h1 := h x (by simp)
    have h2 := ih fun y hy => h y (by simp [hy])
    have : frs (x :: xs) = frameOf x ++ frs xs := by simp [frs]
    rw [this, List.length_append, frameOf_len, List.length_cons]
    omega

theorem headN_behind {p t : List UInt8} (h0 : t.getD 0 0 = 0) (h1 : t.getD 1 0 = 0) : headN (p ++ t) p.length = 0 := by
  unfold headN
  have e0 : (p ++ t).getD p.length 0 = t.getD 0 0 := by simp [List.getD, List.getElem?_append_right]
  have e1 : (p ++ t).getD (p.length + 1) 0 = t.getD 1 0 := by simp [List.getD, List.getElem?_append_right]
  rw [e0, e1, h0, h1]; rfl

set_option maxHeartbeats 8000000 in
theorem c_fAllG (f : Bool) (xs : List (List UInt8)) (t : List UInt8) (hx : ∀ x ∈ xs, 0 < x.length ∧ x.length ≤ 400) (hn : xs.length ≤ 1000) (htl : t.length ≤ 10000) (hend : ∃ e : Int, (e != 0) = true ∧ Contract Try.prog 51 [.sl f (bys (frs xs ++ t)), i64 (frs xs).length] (.tup [.sl true [], i64 0, i64 e]) []) :
    Contract Try.prog 46 [.sl f (bys (frs xs ++ t))] (.tup [.own 0 0 xs.length, i64 (frs xs).length]) [{ sz := 1, rows := bss xs }] := by
  refine contract_of_awp (rs := [2, 3]) Try.func46 rfl Try.ntmps46 (by simp) rfl fun E => ?_
  have hfl : ∀ ys : List (List UInt8), (∀ x ∈ ys, x.length ≤ 400) → ys.length ≤ 1000 → (frs ys).length ≤ 407000 := fun ys hy hl => by
    have := frs_len ys hy; omega
  have hfx := hfl xs (fun x hm => (hx x hm).2) hn
  have hbl : (frs xs ++ t).length ≤ 1000000 := by simp; omega
  (repeat (first | refine awp_seq ?_ | refine awp_block ?_ | ((first | refine awp_skip ?_ | refine awp_exit ?_ | refine awp_reg ttok ?_ | (refine awp_draw ttok ?dr_calm ?_; (case dr_calm => decide +kernel)) | refine awp_condM ?_); simp (maxSteps := 4000000) only [↓reduceIte, Nat.reduceLT, Nat.reduceEqDiff, reduceCtorEq, Nat.reduceAdd, Nat.reduceMul, Int.reduceLE, Int.reduceLT, Int.reduceToNat, Nat.reduceLeDiff, Nat.reduceSub, Int.reduceEq, Nat.reduceBEq, List.replicate, List.set, if_false, if_true, ne_eq, false_implies, implies_true, evA, tyA]; (repeat (with_reducible refine And.intro ?_ ?_; focus ((repeat' with_reducible apply And.intro) <;> (first | omega | with_reducible trivial | with_reducible assumption)))); (with_reducible first | refine awp_id ?_ | refine id_call ?_ | refine id_and ?_ | refine id_ex ?_ | refine id_all ?_ | refine id_le ?_))))
  refine awp_own_nil 4 9000 1 (by simp (maxSteps := 4000000) only [↓reduceIte, Nat.reduceLT, Nat.reduceEqDiff, reduceCtorEq, Nat.reduceAdd, Nat.reduceMul, Int.reduceLE, Int.reduceLT, Int.reduceToNat, Nat.reduceLeDiff, Nat.reduceSub, Int.reduceEq, Nat.reduceBEq, List.replicate, List.set, if_false, if_true, ne_eq, false_implies, implies_true, evA]) (by decide) ?_
  refine awp_loop (X := Nat) (fun k => mkS 25 [(0, .sl f (bys (frs xs ++ t))), (4, .own 9000 0 k), (5, i64 (frs (xs.take k)).length)] [(9000, { sz := 1, rows := bss (xs.take k) })]) (fun k => k ≤ xs.length) (fun k => xs.length - k) 0 (by omega) (mkS_le rfl ?_ ?_) ?_
  · simp (maxSteps := 4000000) only [↓reduceIte, Nat.reduceLT, Nat.reduceEqDiff, reduceCtorEq, Nat.reduceAdd, Nat.reduceMul, Int.reduceLE, Int.reduceLT, Int.reduceToNat, Nat.reduceLeDiff, Nat.reduceSub, Int.reduceEq, Nat.reduceBEq, List.replicate, List.set, if_false, if_true, ne_eq, false_implies, implies_true, evA, St.toOwn, frs, List.flatMap_nil]
    try rfl
  · simp (maxSteps := 4000000) only [↓reduceIte, Nat.reduceLT, Nat.reduceEqDiff, reduceCtorEq, Nat.reduceAdd, Nat.reduceMul, Int.reduceLE, Int.reduceLT, Int.reduceToNat, Nat.reduceLeDiff, Nat.reduceSub, Int.reduceEq, Nat.reduceBEq, List.replicate, List.set, if_false, if_true, ne_eq, false_implies, implies_true, evA, St.toOwn, bss]
    try rfl
  · intro k hk
    have htk : (xs.take k).length = k := by simp; omega
    have hfk := hfl (xs.take k) (fun x hm => (hx x (List.mem_of_mem_take hm)).2) (by omega)
    by_cases hlt : k < xs.length
    · obtain ⟨k', hk'⟩ : ∃ k', k' = k + 1 := ⟨_, rfl⟩
      have hsp : xs = xs.take k ++ [xs.getD k []] ++ xs.drop (k + 1) := by
        rw [List.append_assoc, List.singleton_append]
        have : xs.getD k [] :: xs.drop (k + 1) = xs.drop k := by
          rw [List.drop_eq_getElem_cons hlt]; simp [List.getD, List.getElem?_eq_getElem hlt]
        rw [this, List.take_append_drop]
      have htk' : xs.take k' = xs.take k ++ [xs.getD k []] := by
        rw [hk', List.take_add_one, List.getElem?_eq_getElem hlt]; simp [List.getD, List.getElem?_eq_getElem hlt]
      have hb : frs xs ++ t = frs (xs.take k) ++ frameOf (xs.getD k []) ++ (frs (xs.drop (k + 1)) ++ t) := by
        have e : frs xs = frs (xs.take k) ++ frameOf (xs.getD k []) ++ frs (xs.drop (k + 1)) := by
          conv => lhs; rw [hsp]
          simp [frs]
        rw [e]; simp
      have hm : xs.getD k [] ∈ xs := by simp [List.getD, List.getElem?_eq_getElem hlt]
      obtain ⟨b1, b2⟩ := hx _ hm
      generalize xs.getD k [] = x at *
      obtain ⟨r1, r2, r3, r4⟩ := frame_read (p := frs (xs.take k)) (l := x) (q := frs (xs.drop (k + 1)) ++ t) b2
      rw [← hb] at r1 r2 r3 r4
      have hlen : (frs (xs.take k)).length + x.length + 7 ≤ (frs xs ++ t).length := by
        rw [hb]; simp only [List.length_append, frameOf_len]; omega
      have hg := c_fGetYes f (frs xs ++ t) (frs (xs.take k)).length x.length hbl r1 b1 b2 hlen r2 r3
      rw [r4] at hg
      have hto : (frs (xs.take k)).length + x.length + 7 = (frs (xs.take k')).length := by
        rw [htk', frs_snoc, List.length_append, frameOf_len]; omega
      rw [hto] at hg
      have k0 : ((0 : Int) != 0) = false := rfl
      (repeat (first | refine awp_seq ?_ | refine awp_block ?_ | ((first | refine awp_skip ?_ | refine awp_exit ?_ | refine awp_reg ttok ?_ | (refine awp_draw ttok ?dr_calm ?_; (case dr_calm => decide +kernel)) | refine awp_condM ?_); simp (maxSteps := 4000000) only [↓reduceIte, Nat.reduceLT, Nat.reduceEqDiff, reduceCtorEq, Nat.reduceAdd, Nat.reduceMul, Int.reduceLE, Int.reduceLT, Int.reduceToNat, Nat.reduceLeDiff, Nat.reduceSub, Int.reduceEq, Nat.reduceBEq, List.replicate, List.set, if_false, if_true, ne_eq, false_implies, implies_true, evA, tyA]; (repeat (with_reducible refine And.intro ?_ ?_; focus ((repeat' with_reducible apply And.intro) <;> (first | omega | with_reducible trivial | with_reducible assumption)))); (with_reducible first | refine awp_id ?_ | refine id_call ?_ | refine id_and ?_ | refine id_ex ?_ | refine id_all ?_ | refine id_le ?_))))
      refine callVC_mk fnok51 hg rfl ?_
      simp (maxSteps := 4000000) only [↓reduceIte, Nat.reduceLT, Nat.reduceEqDiff, reduceCtorEq, Nat.reduceAdd, Nat.reduceMul, Int.reduceLE, Int.reduceLT, Int.reduceToNat, Nat.reduceLeDiff, Nat.reduceSub, Int.reduceEq, Nat.reduceBEq, List.replicate, List.set, if_false, if_true, ne_eq, false_implies, implies_true, evA, tyA]
      (repeat (with_reducible refine And.intro ?_ ?_; focus ((repeat' with_reducible apply And.intro) <;> (first | omega | with_reducible trivial | with_reducible assumption))))
      (repeat (first | refine awp_seq ?_ | refine awp_block ?_ | ((first | refine awp_skip ?_ | refine awp_exit ?_ | refine awp_reg ttok ?_ | (refine awp_draw ttok ?dr_calm ?_; (case dr_calm => decide +kernel)) | refine awp_condM ?_); simp (maxSteps := 4000000) only [↓reduceIte, Nat.reduceLT, Nat.reduceEqDiff, reduceCtorEq, Nat.reduceAdd, Nat.reduceMul, Int.reduceLE, Int.reduceLT, Int.reduceToNat, Nat.reduceLeDiff, Nat.reduceSub, Int.reduceEq, Nat.reduceBEq, List.replicate, List.set, if_false, if_true, ne_eq, false_implies, implies_true, evA, tyA, k0, List.take_length, bss_len, bss_one, bss_app, bss_row, bss_take, List.take_take, Nat.min_self, ← htk', htk]; (repeat (with_reducible refine And.intro ?_ ?_; focus ((repeat' with_reducible apply And.intro) <;> (first | omega | with_reducible trivial | with_reducible assumption)))); (with_reducible first | refine awp_id ?_ | refine id_call ?_ | refine id_and ?_ | refine id_ex ?_ | refine id_all ?_ | refine id_le ?_))))
      refine ⟨k', by omega, by omega, mkS_le rfl ?_ ?_⟩
      · simp (maxSteps := 4000000) only [↓reduceIte, Nat.reduceLT, Nat.reduceEqDiff, reduceCtorEq, Nat.reduceAdd, Nat.reduceMul, Int.reduceLE, Int.reduceLT, Int.reduceToNat, Nat.reduceLeDiff, Nat.reduceSub, Int.reduceEq, Nat.reduceBEq, List.replicate, List.set, if_false, if_true, ne_eq, false_implies, implies_true, evA, hk']
      · simp (maxSteps := 4000000) only [↓reduceIte, Nat.reduceLT, Nat.reduceEqDiff, reduceCtorEq, Nat.reduceAdd, Nat.reduceMul, Int.reduceLE, Int.reduceLT, Int.reduceToNat, Nat.reduceLeDiff, Nat.reduceSub, Int.reduceEq, Nat.reduceBEq, List.replicate, List.set, if_false, if_true, ne_eq, false_implies, implies_true, evA]
    · obtain rfl : k = xs.length := by omega
      have hta : xs.take xs.length = xs := List.take_length
      obtain ⟨e, k0, hg⟩ := hend
      rw [hta]
      (repeat (first | refine awp_seq ?_ | refine awp_block ?_ | ((first | refine awp_skip ?_ | refine awp_exit ?_ | refine awp_reg ttok ?_ | (refine awp_draw ttok ?dr_calm ?_; (case dr_calm => decide +kernel)) | refine awp_condM ?_); simp (maxSteps := 4000000) only [↓reduceIte, Nat.reduceLT, Nat.reduceEqDiff, reduceCtorEq, Nat.reduceAdd, Nat.reduceMul, Int.reduceLE, Int.reduceLT, Int.reduceToNat, Nat.reduceLeDiff, Nat.reduceSub, Int.reduceEq, Nat.reduceBEq, List.replicate, List.set, if_false, if_true, ne_eq, false_implies, implies_true, evA, tyA]; (repeat (with_reducible refine And.intro ?_ ?_; focus ((repeat' with_reducible apply And.intro) <;> (first | omega | with_reducible trivial | with_reducible assumption)))); (with_reducible first | refine awp_id ?_ | refine id_call ?_ | refine id_and ?_ | refine id_ex ?_ | refine id_all ?_ | refine id_le ?_))))
      refine callVC_mk (r := .tup [.sl true [], i64 0, i64 e]) (objs := []) fnok51 hg rfl ?_
      simp (maxSteps := 4000000) only [↓reduceIte, Nat.reduceLT, Nat.reduceEqDiff, reduceCtorEq, Nat.reduceAdd, Nat.reduceMul, Int.reduceLE, Int.reduceLT, Int.reduceToNat, Nat.reduceLeDiff, Nat.reduceSub, Int.reduceEq, Nat.reduceBEq, List.replicate, List.set, if_false, if_true, ne_eq, false_implies, implies_true, evA, tyA]
      (repeat (with_reducible refine And.intro ?_ ?_; focus ((repeat' with_reducible apply And.intro) <;> (first | omega | with_reducible trivial | with_reducible assumption))))
      (repeat (first | refine awp_seq ?_ | refine awp_block ?_ | ((first | refine awp_skip ?_ | refine awp_exit ?_ | refine awp_reg ttok ?_ | (refine awp_draw ttok ?dr_calm ?_; (case dr_calm => decide +kernel)) | refine awp_condM ?_); simp (maxSteps := 4000000) only [↓reduceIte, Nat.reduceLT, Nat.reduceEqDiff, reduceCtorEq, Nat.reduceAdd, Nat.reduceMul, Int.reduceLE, Int.reduceLT, Int.reduceToNat, Nat.reduceLeDiff, Nat.reduceSub, Int.reduceEq, Nat.reduceBEq, List.replicate, List.set, if_false, if_true, ne_eq, false_implies, implies_true, evA, tyA, k0]; (repeat (with_reducible refine And.intro ?_ ?_; focus ((repeat' with_reducible apply And.intro) <;> (first | omega | with_reducible trivial | with_reducible assumption)))); (with_reducible first | refine awp_id ?_ | refine id_call ?_ | refine id_and ?_ | refine id_ex ?_ | refine id_all ?_ | refine id_le ?_))))
      exact awp_ret (endsO [9000] (.inr rfl) (by simp (maxSteps := 4000000) only [↓reduceIte, Nat.reduceLT, Nat.reduceEqDiff, reduceCtorEq, Nat.reduceAdd, Nat.reduceMul, Int.reduceLE, Int.reduceLT, Int.reduceToNat, Nat.reduceLeDiff, Nat.reduceSub, Int.reduceEq, Nat.reduceBEq, List.replicate, List.set, if_false, if_true, ne_eq, false_implies, implies_true, evA]; try rfl) (by simp (maxSteps := 4000000) only [↓reduceIte, Nat.reduceLT, Nat.reduceEqDiff, reduceCtorEq, Nat.reduceAdd, Nat.reduceMul, Int.reduceLE, Int.reduceLT, Int.reduceToNat, Nat.reduceLeDiff, Nat.reduceSub, Int.reduceEq, Nat.reduceBEq, List.replicate, List.set, if_false, if_true, ne_eq, false_implies, implies_true, evA]; try rfl))

theorem c_fAll (f : Bool) (xs : List (List UInt8)) (t : List UInt8) (hx : ∀ x ∈ xs, 0 < x.length ∧ x.length ≤ 400) (hn : xs.length ≤ 1000) (ht : 2 ≤ t.length) (htl : t.length ≤ 10000) (h0 : t.getD 0 0 = 0) (h1 : t.getD 1 0 = 0) :
    Contract Try.prog 46 [.sl f (bys (frs xs ++ t))] (.tup [.own 0 0 xs.length, i64 (frs xs).length]) [{ sz := 1, rows := bss xs }] := by
  refine c_fAllG f xs t hx hn htl ⟨6, rfl, ?_⟩
  have hfx := frs_len xs (fun x hm => (hx x hm).2)
  exact c_fGetNone f (frs xs ++ t) (frs xs).length (by simp; omega) (by simp; omega) (.inl (headN_behind h0 h1))

theorem c_fAllS (f : Bool) (xs : List (List UInt8)) (t : List UInt8) (hx : ∀ x ∈ xs, 0 < x.length ∧ x.length ≤ 400) (hn : xs.length ≤ 1000) (ht : t.length < 2) :
    Contract Try.prog 46 [.sl f (bys (frs xs ++ t))] (.tup [.own 0 0 xs.length, i64 (frs xs).length]) [{ sz := 1, rows := bss xs }] := by
  refine c_fAllG f xs t hx hn (by omega) ⟨6, rfl, ?_⟩
  have hfx := frs_len xs (fun x hm => (hx x hm).2)
  exact c_fGetFar f (frs xs ++ t) _ (by simp; omega) (.inr (by simp; omega))

end Go.Proofs.Ytmfonlkigjpjcaa
