import Derived.Test.YtkpplakjdcpoaaaPcp
import Derived.Test.YtkpplakjdcpoaaaDn
import Derived.Test.YtkpplakjdcpoaaaTy
import Derived.Test.YtkpplakjdcpoaaaFam
import Derived.Test.YtkpplakjdcpoaaaBfs
import Derived.Test.YtkpplakjdcpoaaaPe
import Derived.Test.YtkpplakjdcpoaaaNfa
set_option linter.unusedSimpArgs false
set_option linter.unusedVariables false
namespace Go.Proofs.Ytkpplakjdcpoaaa
open Go.Ab
def GoodA (A : List (Int × Int)) (lb : List Lab) (n : Nat) : Prop := ∀ j, j < A.length → ∃ (d : Int) (k o : Nat), A.getD j (0, 0) = (d, (k : Int)) ∧ k < lb.length ∧ o < n ∧ (if d = 1 then (lb.getD k (0, 0, 0)).2.1 else (lb.getD k (0, 0, 0)).1) = (o : Int)
def last8 (l : List Int) : List Int := l.drop (l.length - 8)
def otherN (lb : List Lab) (a : Int × Int) : Nat := (if a.1 = 1 then (lb.getD a.2.toNat (0, 0, 0)).2.1 else (lb.getD a.2.toNat (0, 0, 0)).1).toNat
def didI (lb : List Lab) (i : Img) (a : Int × Int) (s : Int) : Img :=
  if a.1 = 2 then ⟨i.q + 1, s, i.S, i.K.set (otherN lb a) (i.K.getD (otherN lb a) 0 + 1)⟩
  else ⟨i.q + 1, s, i.S.set (otherN lb a) ((i.S.getD (otherN lb a) (0, [])).1 + 1, last8 ((i.S.getD (otherN lb a) (0, [])).2 ++ [a.2])), i.K⟩
def applyI (x : Pr) (lb : List Lab) (i : Img) (a : Int) : Option Img :=
  if 0 ≤ a ∧ a < (x.A.length : Int) then
    (if 0 ≤ toD x.N i.s (findA x.A (x.A.getD a.toNat (0, 0))) then some (didI lb i (x.A.getD a.toNat (0, 0)) (toD x.N i.s (findA x.A (x.A.getD a.toNat (0, 0))))) else none)
  else none
def apD (i : Img) : Option Img → D
  | some y => .tup [imD y, bo true]
  | none => .tup [imD i, bo false]
structure ImgOk (n : Nat) (i : Img) : Prop where
  S : i.S.length = n
  K : i.K.length = n
  q : 0 ≤ i.q ∧ i.q ≤ 1000000
  c : ∀ x ∈ i.S, 0 ≤ x.1 ∧ x.1 ≤ 1000000 ∧ x.2.length ≤ 8
  k : ∀ x ∈ i.K, 0 ≤ x ∧ x ≤ 1000000
theorem last8_len (l : List Int) : (last8 l).length ≤ 8 := by unfold last8; rw [List.length_drop]; omega
set_option maxRecDepth 20000 in
set_option maxHeartbeats 32000000 in
theorem c_Apply2 (f : Bool) (x : Pr) (hx : PWf x) (lb : List Lab) (hA : GoodA x.A lb 2) (i : Img) (hi : ImgOk 2 i) (a : Int) :
    Contract Try.prog 9 [prD x, .sl f (tri lb), imD i, i64 a] (apD i (applyI x lb i a)) [] := by
  refine contract_of_awpV ttok (rs := [.cell 8 43, .tmp 9]) Try.func9 rfl Try.ntmps9 (by simp) rfl fun E => ?_
  obtain ⟨q, s, S, K⟩ := i
  have hal := hx.a
  have hSl : S.length = 2 := hi.S
  have hKl : K.length = 2 := hi.K
  have hq : 0 ≤ q ∧ q ≤ 1000000 := hi.q
  have hc : ∀ x ∈ S, 0 ≤ x.1 ∧ x.1 ≤ 1000000 ∧ x.2.length ≤ 8 := hi.c
  have hk : ∀ x ∈ K, 0 ≤ x ∧ x ≤ 1000000 := hi.k
  clear hi
  obtain ⟨c0, c1, m0, m1, rfl⟩ : ∃ c0 c1 m0 m1, S = [(c0, m0), (c1, m1)] := by
    match S, hSl with
    | [x0, x1], _ => exact ⟨x0.1, x1.1, x0.2, x1.2, rfl⟩
  have hm0 := hc (c0, m0) (by simp)
  have hm1 := hc (c1, m1) (by simp)
  simp only at hm0 hm1
  unfold applyI
  by_cases h0 : a < 0
  · have d0 : decide (a < 0) = true := by simpa using h0
    rw [if_neg (by omega)]
    (repeat (first | refine awp_seq ?_ | refine awp_block ?_ | ((first | refine awp_skip ?_ | refine awp_exit ?_ | refine awp_reg ttok ?_ | (refine awp_draw ttok ?dr_calm ?_; (case dr_calm => decide +kernel)) | refine awp_condM ?_); simp (maxSteps := 4000000) only [↓reduceIte, Nat.reduceLT, Nat.reduceEqDiff, reduceCtorEq, Nat.reduceAdd, Nat.reduceMul, Int.reduceLE, Int.reduceLT, Int.reduceToNat, Nat.reduceLeDiff, Nat.reduceSub, Int.reduceEq, Nat.reduceBEq, evB, tyA, d0]; (repeat (with_reducible refine And.intro ?_ ?_; exact sdX)); (with_reducible first | refine awp_id ?_ | refine id_call ?_ | refine id_and ?_ | refine id_ex ?_ | refine id_all ?_ | refine id_nat ?_ | refine id_le ?_))))
    exact awp_ret (endsV [] (.inr rfl) (by simp (maxSteps := 4000000) only [↓reduceIte, Nat.reduceLT, Nat.reduceEqDiff, reduceCtorEq, Nat.reduceAdd, Nat.reduceMul, Int.reduceLE, Int.reduceLT, Int.reduceToNat, Nat.reduceLeDiff, Nat.reduceSub, Int.reduceEq, Nat.reduceBEq, evB, tyA, apD]; rfl) trivial evX)
  have d0 : decide (a < 0) = false := by simpa using h0
  by_cases h1 : (x.A.length : Int) ≤ a
  · have d1 : decide (a ≥ (x.A.length : Int)) = true := by simpa using h1
    rw [if_neg (by omega)]
    (repeat (first | refine awp_seq ?_ | refine awp_block ?_ | ((first | refine awp_skip ?_ | refine awp_exit ?_ | refine awp_reg ttok ?_ | (refine awp_draw ttok ?dr_calm ?_; (case dr_calm => decide +kernel)) | refine awp_condM ?_); simp (maxSteps := 4000000) only [↓reduceIte, Nat.reduceLT, Nat.reduceEqDiff, reduceCtorEq, Nat.reduceAdd, Nat.reduceMul, Int.reduceLE, Int.reduceLT, Int.reduceToNat, Nat.reduceLeDiff, Nat.reduceSub, Int.reduceEq, Nat.reduceBEq, evB, tyA, d0, d1, duo_len]; (repeat (with_reducible refine And.intro ?_ ?_; exact sdX)); (with_reducible first | refine awp_id ?_ | refine id_call ?_ | refine id_and ?_ | refine id_ex ?_ | refine id_all ?_ | refine id_nat ?_ | refine id_le ?_))))
    exact awp_ret (endsV [] (.inr rfl) (by simp (maxSteps := 4000000) only [↓reduceIte, Nat.reduceLT, Nat.reduceEqDiff, reduceCtorEq, Nat.reduceAdd, Nat.reduceMul, Int.reduceLE, Int.reduceLT, Int.reduceToNat, Nat.reduceLeDiff, Nat.reduceSub, Int.reduceEq, Nat.reduceBEq, evB, tyA, apD]; rfl) trivial evX)
  have d1 : decide (a ≥ (x.A.length : Int)) = false := by simp; omega
  rw [if_pos ⟨by omega, by omega⟩]
  obtain ⟨j, rfl⟩ := Int.eq_ofNat_of_zero_le (show 0 ≤ a by omega)
  have hj : j < x.A.length := by omega
  rw [Int.toNat_natCast]
  have gj := duo_get hj
  obtain ⟨d, k, o, e1, hkl, ho, e2⟩ := hA j hj
  have hTo := c_PTo x hx s (x.A.getD j (0, 0))
  generalize toD x.N s (findA x.A (x.A.getD j (0, 0))) = t at *
  rw [e1] at hTo gj ⊢
  (repeat (first | refine awp_seq ?_ | refine awp_block ?_ | ((first | refine awp_skip ?_ | refine awp_exit ?_ | refine awp_reg ttok ?_ | (refine awp_draw ttok ?dr_calm ?_; (case dr_calm => decide +kernel)) | refine awp_condM ?_); simp (maxSteps := 4000000) only [↓reduceIte, Nat.reduceLT, Nat.reduceEqDiff, reduceCtorEq, Nat.reduceAdd, Nat.reduceMul, Int.reduceLE, Int.reduceLT, Int.reduceToNat, Nat.reduceLeDiff, Nat.reduceSub, Int.reduceEq, Nat.reduceBEq, evB, tyA, d0, d1, duo_len, gj]; (repeat (with_reducible refine And.intro ?_ ?_; exact sdX)); (with_reducible first | refine awp_id ?_ | refine id_call ?_ | refine id_and ?_ | refine id_ex ?_ | refine id_all ?_ | refine id_nat ?_ | refine id_le ?_))))
  refine callVC_scal fnok18 hTo rfl ?_
  simp (maxSteps := 4000000) only [↓reduceIte, Nat.reduceLT, Nat.reduceEqDiff, reduceCtorEq, Nat.reduceAdd, Nat.reduceMul, Int.reduceLE, Int.reduceLT, Int.reduceToNat, Nat.reduceLeDiff, Nat.reduceSub, Int.reduceEq, Nat.reduceBEq, evB, tyA]
  (repeat (with_reducible refine And.intro ?_ ?_; exact sdX))
  by_cases ht : t < 0
  · have dt : decide (t < 0) = true := by simpa using ht
    rw [if_neg (by omega)]
    (repeat (first | refine awp_seq ?_ | refine awp_block ?_ | ((first | refine awp_skip ?_ | refine awp_exit ?_ | refine awp_reg ttok ?_ | (refine awp_draw ttok ?dr_calm ?_; (case dr_calm => decide +kernel)) | refine awp_condM ?_); simp (maxSteps := 4000000) only [↓reduceIte, Nat.reduceLT, Nat.reduceEqDiff, reduceCtorEq, Nat.reduceAdd, Nat.reduceMul, Int.reduceLE, Int.reduceLT, Int.reduceToNat, Nat.reduceLeDiff, Nat.reduceSub, Int.reduceEq, Nat.reduceBEq, evB, tyA, dt]; (repeat (with_reducible refine And.intro ?_ ?_; exact sdX)); (with_reducible first | refine awp_id ?_ | refine id_call ?_ | refine id_and ?_ | refine id_ex ?_ | refine id_all ?_ | refine id_nat ?_ | refine id_le ?_))))
    exact awp_ret (endsV [] (.inr rfl) (by simp (maxSteps := 4000000) only [↓reduceIte, Nat.reduceLT, Nat.reduceEqDiff, reduceCtorEq, Nat.reduceAdd, Nat.reduceMul, Int.reduceLE, Int.reduceLT, Int.reduceToNat, Nat.reduceLeDiff, Nat.reduceSub, Int.reduceEq, Nat.reduceBEq, evB, tyA, apD]; rfl) trivial evX)
  have dt : decide (t < 0) = false := by simpa using ht
  rw [if_pos (by omega)]
  have dk : decide ((k : Int) < 0) = false := by simp
  have dl : decide ((k : Int) ≥ (lb.length : Int)) = false := by simp; omega
  have gk := tri_get hkl
  have hOt := c_other (lb.getD k (0, 0, 0)).1 (lb.getD k (0, 0, 0)).2.1 (lb.getD k (0, 0, 0)).2.2 d
  rw [e2] at hOt
  have hot : otherN lb (d, (k : Int)) = o := by unfold otherN; simp only [Int.toNat_natCast]; rw [e2]; simp
  unfold didI
  rw [hot]
  generalize lb.getD k (0, 0, 0) = z at *
  have do0 : decide ((o : Int) < 0) = false := by simp
  have hSn : (srs [(c0, m0), (c1, m1)]).length = 2 := rfl
  have hSn2 : ([(c0, m0), (c1, m1)] : List (Int × List Int)).length = 2 := rfl
  have doS : decide ((o : Int) ≥ ((2 : Nat) : Int)) = false := by simp; omega
  have doS2 : decide ((o : Int) ≥ (2 : Int)) = false := by simp; omega
  have doK : decide ((o : Int) ≥ (K.length : Int)) = false := by simp; omega
  have hCp := c_sCopy2 q s false false c0 c1 m0 m1 K (by omega) (by omega) (by omega)
  have hqw : IntKind.i64.wrap (q + 1) = q + 1 := i64_in (by omega) (by omega)
  (repeat (first | refine awp_seq ?_ | refine awp_block ?_ | ((first | refine awp_skip ?_ | refine awp_exit ?_ | refine awp_reg ttok ?_ | (refine awp_draw ttok ?dr_calm ?_; (case dr_calm => decide +kernel)) | refine awp_condM ?_); simp (maxSteps := 4000000) only [↓reduceIte, Nat.reduceLT, Nat.reduceEqDiff, reduceCtorEq, Nat.reduceAdd, Nat.reduceMul, Int.reduceLE, Int.reduceLT, Int.reduceToNat, Nat.reduceLeDiff, Nat.reduceSub, Int.reduceEq, Nat.reduceBEq, evB, tyA, dt, dk, dl, tri_len]; (repeat (with_reducible refine And.intro ?_ ?_; exact sdX)); (with_reducible first | refine awp_id ?_ | refine id_call ?_ | refine id_and ?_ | refine id_ex ?_ | refine id_all ?_ | refine id_nat ?_ | refine id_le ?_))))
  refine awp_drawG ttok ((0, none) :: (1, none) :: (2, none) :: (3, none) :: (4, none) :: (5, none) :: (6, none) :: (7, some []) :: (8, none) :: []) ([]) ([]) (by decide +kernel) fun O hO => ?_; simp only [OpsAre, Nat.reduceAdd, and_true, List.toList_toArray, List.append_eq, List.cons_append, List.nil_append] at hO; simp (maxSteps := 4000000) only [↓reduceIte, Nat.reduceLT, Nat.reduceEqDiff, reduceCtorEq, Nat.reduceAdd, Nat.reduceMul, Int.reduceLE, Int.reduceLT, Int.reduceToNat, Nat.reduceLeDiff, Nat.reduceSub, Int.reduceEq, Nat.reduceBEq, evB, tyA, hO, gk, tri_len]; (repeat (with_reducible refine And.intro ?_ ?_; exact sdX))
  refine callVC_scal fnok19 hOt rfl ?_
  simp (maxSteps := 4000000) only [↓reduceIte, Nat.reduceLT, Nat.reduceEqDiff, reduceCtorEq, Nat.reduceAdd, Nat.reduceMul, Int.reduceLE, Int.reduceLT, Int.reduceToNat, Nat.reduceLeDiff, Nat.reduceSub, Int.reduceEq, Nat.reduceBEq, evB, tyA, hO]
  (repeat (with_reducible refine And.intro ?_ ?_; exact sdX))
  (repeat (first | refine awp_seq ?_ | refine awp_block ?_ | ((first | refine awp_skip ?_ | refine awp_exit ?_ | refine awp_reg ttok ?_ | (refine awp_draw ttok ?dr_calm ?_; (case dr_calm => decide +kernel)) | refine awp_condM ?_); simp (maxSteps := 4000000) only [↓reduceIte, Nat.reduceLT, Nat.reduceEqDiff, reduceCtorEq, Nat.reduceAdd, Nat.reduceMul, Int.reduceLE, Int.reduceLT, Int.reduceToNat, Nat.reduceLeDiff, Nat.reduceSub, Int.reduceEq, Nat.reduceBEq, evB, tyA, do0, doS, doS2, doK, hSn, ints_len]; (repeat (with_reducible refine And.intro ?_ ?_; exact sdX)); (with_reducible first | refine awp_id ?_ | refine id_call ?_ | refine id_and ?_ | refine id_ex ?_ | refine id_all ?_ | refine id_nat ?_ | refine id_le ?_))))
  refine callVC_mk fnok20 hCp rfl ?_
  simp (maxSteps := 4000000) only [↓reduceIte, Nat.reduceLT, Nat.reduceEqDiff, reduceCtorEq, Nat.reduceAdd, Nat.reduceMul, Int.reduceLE, Int.reduceLT, Int.reduceToNat, Nat.reduceLeDiff, Nat.reduceSub, Int.reduceEq, Nat.reduceBEq, evB, tyA]
  (repeat (with_reducible refine And.intro ?_ ?_; exact sdX))
  by_cases h2 : d = 2
  · subst h2
    have k2 : ((2 : Int) == 2) = true := rfl
    have gK := ints_get (l := K) (i := o) (by omega)
    have hv := hk _ (getD_mem (l := K) (i := o) (by omega) 0)
    rw [if_pos rfl]
    generalize K.getD o 0 = v at *
    have hvw : IntKind.i64.wrap (v + 1) = v + 1 := i64_in (by omega) (by omega)
    have hs : ∀ y : Int, List.set (ints K) o [D.v (Value.int IntKind.i64 y)] = ints (K.set o y) := fun y => by simp [ints]
    have hl2 : (K.set o (v + 1)).length = K.length := List.length_set
    have hKt : List.take K.length (K.set o (v + 1)) = K.set o (v + 1) := List.take_of_length_le (by omega)
    (repeat (first | refine awp_seq ?_ | refine awp_block ?_ | ((first | refine awp_skip ?_ | refine awp_exit ?_ | refine awp_reg ttok ?_ | (refine awp_draw ttok ?dr_calm ?_; (case dr_calm => decide +kernel)) | refine awp_condM ?_); simp (maxSteps := 4000000) only [↓reduceIte, Nat.reduceLT, Nat.reduceEqDiff, reduceCtorEq, Nat.reduceAdd, Nat.reduceMul, Int.reduceLE, Int.reduceLT, Int.reduceToNat, Nat.reduceLeDiff, Nat.reduceSub, Int.reduceEq, Nat.reduceBEq, evB, tyA, hqw, k2, gK, ints_len, hvw, hs]; (repeat (with_reducible refine And.intro ?_ ?_; exact sdX)); (with_reducible first | refine awp_id ?_ | refine id_call ?_ | refine id_and ?_ | refine id_ex ?_ | refine id_all ?_ | refine id_nat ?_ | refine id_le ?_))))
    refine awp_pureO 111001 (ids := [111003, 111004]) (by simp (maxSteps := 4000000) only [↓reduceIte, Nat.reduceLT, Nat.reduceEqDiff, reduceCtorEq, Nat.reduceAdd, Nat.reduceMul, Int.reduceLE, Int.reduceLT, Int.reduceToNat, Nat.reduceLeDiff, Nat.reduceSub, Int.reduceEq, Nat.reduceBEq, evB]; rfl) rfl (by simp (maxSteps := 4000000) only [↓reduceIte, Nat.reduceLT, Nat.reduceEqDiff, reduceCtorEq, Nat.reduceAdd, Nat.reduceMul, Int.reduceLE, Int.reduceLT, Int.reduceToNat, Nat.reduceLeDiff, Nat.reduceSub, Int.reduceEq, Nat.reduceBEq, evB, ints_take, List.take_length]; rfl) (by simp (maxSteps := 4000000) only [↓reduceIte, Nat.reduceLT, Nat.reduceEqDiff, reduceCtorEq, Nat.reduceAdd, Nat.reduceMul, Int.reduceLE, Int.reduceLT, Int.reduceToNat, Nat.reduceLeDiff, Nat.reduceSub, Int.reduceEq, Nat.reduceBEq, evB, ints_len]) (by decide) ?_
    refine awp_pureO 1002 (ids := [111001, 111002]) (by simp (maxSteps := 4000000) only [↓reduceIte, Nat.reduceLT, Nat.reduceEqDiff, reduceCtorEq, Nat.reduceAdd, Nat.reduceMul, Int.reduceLE, Int.reduceLT, Int.reduceToNat, Nat.reduceLeDiff, Nat.reduceSub, Int.reduceEq, Nat.reduceBEq, evB]; rfl) rfl (by simp (maxSteps := 4000000) only [↓reduceIte, Nat.reduceLT, Nat.reduceEqDiff, reduceCtorEq, Nat.reduceAdd, Nat.reduceMul, Int.reduceLE, Int.reduceLT, Int.reduceToNat, Nat.reduceLeDiff, Nat.reduceSub, Int.reduceEq, Nat.reduceBEq, evB, ints_take, hKt, List.take_succ_cons, List.take_zero, List.take_nil]; rfl) (by simp (maxSteps := 4000000) only [↓reduceIte, Nat.reduceLT, Nat.reduceEqDiff, reduceCtorEq, Nat.reduceAdd, Nat.reduceMul, Int.reduceLE, Int.reduceLT, Int.reduceToNat, Nat.reduceLeDiff, Nat.reduceSub, Int.reduceEq, Nat.reduceBEq, evB, ints_len, hl2, List.length_cons, List.length_nil]) (by decide) ?_
    (repeat (first | refine awp_seq ?_ | refine awp_block ?_ | ((first | refine awp_skip ?_ | refine awp_exit ?_ | refine awp_reg ttok ?_ | (refine awp_draw ttok ?dr_calm ?_; (case dr_calm => decide +kernel)) | refine awp_condM ?_); simp (maxSteps := 4000000) only [↓reduceIte, Nat.reduceLT, Nat.reduceEqDiff, reduceCtorEq, Nat.reduceAdd, Nat.reduceMul, Int.reduceLE, Int.reduceLT, Int.reduceToNat, Nat.reduceLeDiff, Nat.reduceSub, Int.reduceEq, Nat.reduceBEq, evB, tyA]; (repeat (with_reducible refine And.intro ?_ ?_; exact sdX)); (with_reducible first | refine awp_id ?_ | refine id_call ?_ | refine id_and ?_ | refine id_ex ?_ | refine id_all ?_ | refine id_nat ?_ | refine id_le ?_))))
    exact awp_ret (endsV [] (.inr rfl) (by simp (maxSteps := 4000000) only [↓reduceIte, Nat.reduceLT, Nat.reduceEqDiff, reduceCtorEq, Nat.reduceAdd, Nat.reduceMul, Int.reduceLE, Int.reduceLT, Int.reduceToNat, Nat.reduceLeDiff, Nat.reduceSub, Int.reduceEq, Nat.reduceBEq, evB, tyA, apD]; rfl) trivial evX)
  · have k2 : (d == 2) = false := by simpa using h2
    rw [if_neg h2]
    have h1k : [[i64 (k : Int)]] = ints [(k : Int)] := rfl
    have hr1 : (∀ row ∈ ints [(k : Int)], row.length = 1) = True := by simp [ints]
    have hKt : List.take K.length K = K := List.take_length
    match o, ho with
    | 0, _ =>
      have hcw : IntKind.i64.wrap (c0 + 1) = c0 + 1 := i64_in (by omega) (by omega)
      have hml : (m0 ++ [(k : Int)]).length = m0.length + 1 := by simp
      have hmt : List.take m0.length m0 = m0 := List.take_length
      have hsw : IntKind.i64.wrap (((m0.length + 1 : Nat) : Int) - 8) = (m0.length : Int) - 7 := by rw [show ((m0.length + 1 : Nat) : Int) - 8 = (m0.length : Int) - 7 by omega]; exact i64_in (by omega) (by omega)
      have hmx : (if 0 > (m0.length : Int) - 7 then (0 : Int) else (m0.length : Int) - 7).toNat = m0.length - 7 := by split <;> omega
      (repeat (first | refine awp_seq ?_ | refine awp_block ?_ | ((first | refine awp_skip ?_ | refine awp_exit ?_ | refine awp_reg ttok ?_ | (refine awp_draw ttok ?dr_calm ?_; (case dr_calm => decide +kernel)) | refine awp_condM ?_); simp (maxSteps := 4000000) only [↓reduceIte, Nat.reduceLT, Nat.reduceEqDiff, reduceCtorEq, Nat.reduceAdd, Nat.reduceMul, Int.reduceLE, Int.reduceLT, Int.reduceToNat, Nat.reduceLeDiff, Nat.reduceSub, Int.reduceEq, Nat.reduceBEq, evB, tyA, hqw, k2, List.getD_cons_zero, List.getD_cons_succ, List.length_cons, List.length_nil, Nat.reduceAdd, List.set_cons_zero, List.set_cons_succ]; (repeat (with_reducible refine And.intro ?_ ?_; exact sdX)); (with_reducible first | refine awp_id ?_ | refine id_call ?_ | refine id_and ?_ | refine id_ex ?_ | refine id_all ?_ | refine id_nat ?_ | refine id_le ?_))))
      refine awp_drawG ttok ((0, none) :: (1, none) :: (2, none) :: (3, none) :: (4, none) :: (5, none) :: (6, none) :: (7, none) :: (8, some [0, 1, 2, 3, 4, 5]) :: (9, some []) :: (10, none) :: []) ([]) ([]) (by decide +kernel) fun O hO => ?_; simp only [OpsAre, Nat.reduceAdd, and_true, List.toList_toArray, List.append_eq, List.cons_append, List.nil_append] at hO; simp (maxSteps := 4000000) only [↓reduceIte, Nat.reduceLT, Nat.reduceEqDiff, reduceCtorEq, Nat.reduceAdd, Nat.reduceMul, Int.reduceLE, Int.reduceLT, Int.reduceToNat, Nat.reduceLeDiff, Nat.reduceSub, Int.reduceEq, Nat.reduceBEq, evB, tyA, hO, List.getD_cons_zero, List.getD_cons_succ, List.length_cons, List.length_nil, Nat.reduceAdd, List.set_cons_zero, List.set_cons_succ, h1k, hr1, ints_app, ints_len, ints_take, hmt, hml]; (repeat (with_reducible refine And.intro ?_ ?_; exact sdX))
      (repeat (first | refine awp_seq ?_ | refine awp_block ?_ | ((first | refine awp_skip ?_ | refine awp_exit ?_ | refine awp_reg ttok ?_ | (refine awp_draw ttok ?dr_calm ?_; (case dr_calm => decide +kernel)) | refine awp_condM ?_); simp (maxSteps := 4000000) only [↓reduceIte, Nat.reduceLT, Nat.reduceEqDiff, reduceCtorEq, Nat.reduceAdd, Nat.reduceMul, Int.reduceLE, Int.reduceLT, Int.reduceToNat, Nat.reduceLeDiff, Nat.reduceSub, Int.reduceEq, Nat.reduceBEq, evB, tyA]; (repeat (with_reducible refine And.intro ?_ ?_; exact sdX)); (with_reducible first | refine awp_id ?_ | refine id_call ?_ | refine id_and ?_ | refine id_ex ?_ | refine id_all ?_ | refine id_nat ?_ | refine id_le ?_))))
      refine awp_drawG ttok ((0, none) :: (1, none) :: (2, none) :: (3, none) :: (4, none) :: (5, none) :: (6, none) :: (7, none) :: (8, none) :: (9, none) :: (10, none) :: (11, none) :: (12, none) :: (13, none) :: (14, none) :: (15, none) :: (16, none) :: (17, none) :: (18, some []) :: []) ([]) ([]) (by decide +kernel) fun O hO => ?_; simp only [OpsAre, Nat.reduceAdd, and_true, List.toList_toArray, List.append_eq, List.cons_append, List.nil_append] at hO; simp (maxSteps := 4000000) only [↓reduceIte, Nat.reduceLT, Nat.reduceEqDiff, reduceCtorEq, Nat.reduceAdd, Nat.reduceMul, Int.reduceLE, Int.reduceLT, Int.reduceToNat, Nat.reduceLeDiff, Nat.reduceSub, Int.reduceEq, Nat.reduceBEq, evB, tyA, hO, List.getD_cons_zero, List.getD_cons_succ, List.length_cons, List.length_nil, Nat.reduceAdd, List.set_cons_zero, List.set_cons_succ, hcw, hsw, hmx, hml, ints_len]; (repeat (with_reducible refine And.intro ?_ ?_; exact sdX))
      (repeat (first | refine awp_seq ?_ | refine awp_block ?_ | ((first | refine awp_skip ?_ | refine awp_exit ?_ | refine awp_reg ttok ?_ | (refine awp_draw ttok ?dr_calm ?_; (case dr_calm => decide +kernel)) | refine awp_condM ?_); simp (maxSteps := 4000000) only [↓reduceIte, Nat.reduceLT, Nat.reduceEqDiff, reduceCtorEq, Nat.reduceAdd, Nat.reduceMul, Int.reduceLE, Int.reduceLT, Int.reduceToNat, Nat.reduceLeDiff, Nat.reduceSub, Int.reduceEq, Nat.reduceBEq, evB, tyA]; (repeat (with_reducible refine And.intro ?_ ?_; exact sdX)); (with_reducible first | refine awp_id ?_ | refine id_call ?_ | refine id_and ?_ | refine id_ex ?_ | refine id_all ?_ | refine id_nat ?_ | refine id_le ?_))))
      have hl8 : List.take (m0.length + 1 - (m0.length - 7)) (List.drop (m0.length - 7) (m0 ++ [(k : Int)])) = last8 (m0 ++ [(k : Int)]) := by
        unfold last8
        rw [hml, show m0.length + 1 - 8 = m0.length - 7 by omega, List.take_of_length_le (by rw [List.length_drop, hml]; exact Nat.le_refl _)]
      refine awp_pureO 111001 (ids := [111003, 111004]) (by simp (maxSteps := 4000000) only [↓reduceIte, Nat.reduceLT, Nat.reduceEqDiff, reduceCtorEq, Nat.reduceAdd, Nat.reduceMul, Int.reduceLE, Int.reduceLT, Int.reduceToNat, Nat.reduceLeDiff, Nat.reduceSub, Int.reduceEq, Nat.reduceBEq, evB]; rfl) rfl (by simp (maxSteps := 4000000) only [↓reduceIte, Nat.reduceLT, Nat.reduceEqDiff, reduceCtorEq, Nat.reduceAdd, Nat.reduceMul, Int.reduceLE, Int.reduceLT, Int.reduceToNat, Nat.reduceLeDiff, Nat.reduceSub, Int.reduceEq, Nat.reduceBEq, evB, ints_take, ints_drop, hl8, List.take_length]; rfl) (by simp (maxSteps := 4000000) only [↓reduceIte, Nat.reduceLT, Nat.reduceEqDiff, reduceCtorEq, Nat.reduceAdd, Nat.reduceMul, Int.reduceLE, Int.reduceLT, Int.reduceToNat, Nat.reduceLeDiff, Nat.reduceSub, Int.reduceEq, Nat.reduceBEq, evB, ints_len, hml]; omega) (by decide) ?_
      refine awp_pureO 1002 (ids := [111001, 111002]) (by simp (maxSteps := 4000000) only [↓reduceIte, Nat.reduceLT, Nat.reduceEqDiff, reduceCtorEq, Nat.reduceAdd, Nat.reduceMul, Int.reduceLE, Int.reduceLT, Int.reduceToNat, Nat.reduceLeDiff, Nat.reduceSub, Int.reduceEq, Nat.reduceBEq, evB]; rfl) rfl (by simp (maxSteps := 4000000) only [↓reduceIte, Nat.reduceLT, Nat.reduceEqDiff, reduceCtorEq, Nat.reduceAdd, Nat.reduceMul, Int.reduceLE, Int.reduceLT, Int.reduceToNat, Nat.reduceLeDiff, Nat.reduceSub, Int.reduceEq, Nat.reduceBEq, evB, ints_take, hKt, List.take_succ_cons, List.take_zero, List.take_nil]; rfl) (by simp (maxSteps := 4000000) only [↓reduceIte, Nat.reduceLT, Nat.reduceEqDiff, reduceCtorEq, Nat.reduceAdd, Nat.reduceMul, Int.reduceLE, Int.reduceLT, Int.reduceToNat, Nat.reduceLeDiff, Nat.reduceSub, Int.reduceEq, Nat.reduceBEq, evB, ints_len, List.length_cons, List.length_nil]) (by decide) ?_
      exact awp_ret (endsV [] (.inr rfl) (by simp (maxSteps := 4000000) only [↓reduceIte, Nat.reduceLT, Nat.reduceEqDiff, reduceCtorEq, Nat.reduceAdd, Nat.reduceMul, Int.reduceLE, Int.reduceLT, Int.reduceToNat, Nat.reduceLeDiff, Nat.reduceSub, Int.reduceEq, Nat.reduceBEq, evB, tyA, apD]; rfl) trivial evX)
    | 1, _ =>
      have hcw : IntKind.i64.wrap (c1 + 1) = c1 + 1 := i64_in (by omega) (by omega)
      have hml : (m1 ++ [(k : Int)]).length = m1.length + 1 := by simp
      have hmt : List.take m1.length m1 = m1 := List.take_length
      have hsw : IntKind.i64.wrap (((m1.length + 1 : Nat) : Int) - 8) = (m1.length : Int) - 7 := by rw [show ((m1.length + 1 : Nat) : Int) - 8 = (m1.length : Int) - 7 by omega]; exact i64_in (by omega) (by omega)
      have hmx : (if 0 > (m1.length : Int) - 7 then (0 : Int) else (m1.length : Int) - 7).toNat = m1.length - 7 := by split <;> omega
      (repeat (first | refine awp_seq ?_ | refine awp_block ?_ | ((first | refine awp_skip ?_ | refine awp_exit ?_ | refine awp_reg ttok ?_ | (refine awp_draw ttok ?dr_calm ?_; (case dr_calm => decide +kernel)) | refine awp_condM ?_); simp (maxSteps := 4000000) only [↓reduceIte, Nat.reduceLT, Nat.reduceEqDiff, reduceCtorEq, Nat.reduceAdd, Nat.reduceMul, Int.reduceLE, Int.reduceLT, Int.reduceToNat, Nat.reduceLeDiff, Nat.reduceSub, Int.reduceEq, Nat.reduceBEq, evB, tyA, hqw, k2, List.getD_cons_zero, List.getD_cons_succ, List.length_cons, List.length_nil, Nat.reduceAdd, List.set_cons_zero, List.set_cons_succ]; (repeat (with_reducible refine And.intro ?_ ?_; exact sdX)); (with_reducible first | refine awp_id ?_ | refine id_call ?_ | refine id_and ?_ | refine id_ex ?_ | refine id_all ?_ | refine id_nat ?_ | refine id_le ?_))))
      refine awp_drawG ttok ((0, none) :: (1, none) :: (2, none) :: (3, none) :: (4, none) :: (5, none) :: (6, none) :: (7, none) :: (8, some [0, 1, 2, 3, 4, 5]) :: (9, some []) :: (10, none) :: []) ([]) ([]) (by decide +kernel) fun O hO => ?_; simp only [OpsAre, Nat.reduceAdd, and_true, List.toList_toArray, List.append_eq, List.cons_append, List.nil_append] at hO; simp (maxSteps := 4000000) only [↓reduceIte, Nat.reduceLT, Nat.reduceEqDiff, reduceCtorEq, Nat.reduceAdd, Nat.reduceMul, Int.reduceLE, Int.reduceLT, Int.reduceToNat, Nat.reduceLeDiff, Nat.reduceSub, Int.reduceEq, Nat.reduceBEq, evB, tyA, hO, List.getD_cons_zero, List.getD_cons_succ, List.length_cons, List.length_nil, Nat.reduceAdd, List.set_cons_zero, List.set_cons_succ, h1k, hr1, ints_app, ints_len, ints_take, hmt, hml]; (repeat (with_reducible refine And.intro ?_ ?_; exact sdX))
      (repeat (first | refine awp_seq ?_ | refine awp_block ?_ | ((first | refine awp_skip ?_ | refine awp_exit ?_ | refine awp_reg ttok ?_ | (refine awp_draw ttok ?dr_calm ?_; (case dr_calm => decide +kernel)) | refine awp_condM ?_); simp (maxSteps := 4000000) only [↓reduceIte, Nat.reduceLT, Nat.reduceEqDiff, reduceCtorEq, Nat.reduceAdd, Nat.reduceMul, Int.reduceLE, Int.reduceLT, Int.reduceToNat, Nat.reduceLeDiff, Nat.reduceSub, Int.reduceEq, Nat.reduceBEq, evB, tyA]; (repeat (with_reducible refine And.intro ?_ ?_; exact sdX)); (with_reducible first | refine awp_id ?_ | refine id_call ?_ | refine id_and ?_ | refine id_ex ?_ | refine id_all ?_ | refine id_nat ?_ | refine id_le ?_))))
      refine awp_drawG ttok ((0, none) :: (1, none) :: (2, none) :: (3, none) :: (4, none) :: (5, none) :: (6, none) :: (7, none) :: (8, none) :: (9, none) :: (10, none) :: (11, none) :: (12, none) :: (13, none) :: (14, none) :: (15, none) :: (16, none) :: (17, none) :: (18, some []) :: []) ([]) ([]) (by decide +kernel) fun O hO => ?_; simp only [OpsAre, Nat.reduceAdd, and_true, List.toList_toArray, List.append_eq, List.cons_append, List.nil_append] at hO; simp (maxSteps := 4000000) only [↓reduceIte, Nat.reduceLT, Nat.reduceEqDiff, reduceCtorEq, Nat.reduceAdd, Nat.reduceMul, Int.reduceLE, Int.reduceLT, Int.reduceToNat, Nat.reduceLeDiff, Nat.reduceSub, Int.reduceEq, Nat.reduceBEq, evB, tyA, hO, List.getD_cons_zero, List.getD_cons_succ, List.length_cons, List.length_nil, Nat.reduceAdd, List.set_cons_zero, List.set_cons_succ, hcw, hsw, hmx, hml, ints_len]; (repeat (with_reducible refine And.intro ?_ ?_; exact sdX))
      (repeat (first | refine awp_seq ?_ | refine awp_block ?_ | ((first | refine awp_skip ?_ | refine awp_exit ?_ | refine awp_reg ttok ?_ | (refine awp_draw ttok ?dr_calm ?_; (case dr_calm => decide +kernel)) | refine awp_condM ?_); simp (maxSteps := 4000000) only [↓reduceIte, Nat.reduceLT, Nat.reduceEqDiff, reduceCtorEq, Nat.reduceAdd, Nat.reduceMul, Int.reduceLE, Int.reduceLT, Int.reduceToNat, Nat.reduceLeDiff, Nat.reduceSub, Int.reduceEq, Nat.reduceBEq, evB, tyA]; (repeat (with_reducible refine And.intro ?_ ?_; exact sdX)); (with_reducible first | refine awp_id ?_ | refine id_call ?_ | refine id_and ?_ | refine id_ex ?_ | refine id_all ?_ | refine id_nat ?_ | refine id_le ?_))))
      have hl8 : List.take (m1.length + 1 - (m1.length - 7)) (List.drop (m1.length - 7) (m1 ++ [(k : Int)])) = last8 (m1 ++ [(k : Int)]) := by
        unfold last8
        rw [hml, show m1.length + 1 - 8 = m1.length - 7 by omega, List.take_of_length_le (by rw [List.length_drop, hml]; exact Nat.le_refl _)]
      refine awp_pureO 111001 (ids := [111003, 111004]) (by simp (maxSteps := 4000000) only [↓reduceIte, Nat.reduceLT, Nat.reduceEqDiff, reduceCtorEq, Nat.reduceAdd, Nat.reduceMul, Int.reduceLE, Int.reduceLT, Int.reduceToNat, Nat.reduceLeDiff, Nat.reduceSub, Int.reduceEq, Nat.reduceBEq, evB]; rfl) rfl (by simp (maxSteps := 4000000) only [↓reduceIte, Nat.reduceLT, Nat.reduceEqDiff, reduceCtorEq, Nat.reduceAdd, Nat.reduceMul, Int.reduceLE, Int.reduceLT, Int.reduceToNat, Nat.reduceLeDiff, Nat.reduceSub, Int.reduceEq, Nat.reduceBEq, evB, ints_take, ints_drop, hl8, List.take_length]; rfl) (by simp (maxSteps := 4000000) only [↓reduceIte, Nat.reduceLT, Nat.reduceEqDiff, reduceCtorEq, Nat.reduceAdd, Nat.reduceMul, Int.reduceLE, Int.reduceLT, Int.reduceToNat, Nat.reduceLeDiff, Nat.reduceSub, Int.reduceEq, Nat.reduceBEq, evB, ints_len, hml]; omega) (by decide) ?_
      refine awp_pureO 1002 (ids := [111001, 111002]) (by simp (maxSteps := 4000000) only [↓reduceIte, Nat.reduceLT, Nat.reduceEqDiff, reduceCtorEq, Nat.reduceAdd, Nat.reduceMul, Int.reduceLE, Int.reduceLT, Int.reduceToNat, Nat.reduceLeDiff, Nat.reduceSub, Int.reduceEq, Nat.reduceBEq, evB]; rfl) rfl (by simp (maxSteps := 4000000) only [↓reduceIte, Nat.reduceLT, Nat.reduceEqDiff, reduceCtorEq, Nat.reduceAdd, Nat.reduceMul, Int.reduceLE, Int.reduceLT, Int.reduceToNat, Nat.reduceLeDiff, Nat.reduceSub, Int.reduceEq, Nat.reduceBEq, evB, ints_take, hKt, List.take_succ_cons, List.take_zero, List.take_nil]; rfl) (by simp (maxSteps := 4000000) only [↓reduceIte, Nat.reduceLT, Nat.reduceEqDiff, reduceCtorEq, Nat.reduceAdd, Nat.reduceMul, Int.reduceLE, Int.reduceLT, Int.reduceToNat, Nat.reduceLeDiff, Nat.reduceSub, Int.reduceEq, Nat.reduceBEq, evB, ints_len, List.length_cons, List.length_nil]) (by decide) ?_
      exact awp_ret (endsV [] (.inr rfl) (by simp (maxSteps := 4000000) only [↓reduceIte, Nat.reduceLT, Nat.reduceEqDiff, reduceCtorEq, Nat.reduceAdd, Nat.reduceMul, Int.reduceLE, Int.reduceLT, Int.reduceToNat, Nat.reduceLeDiff, Nat.reduceSub, Int.reduceEq, Nat.reduceBEq, evB, tyA, apD]; rfl) trivial evX)
set_option maxRecDepth 20000 in
set_option maxHeartbeats 32000000 in
theorem c_Apply3 (f : Bool) (x : Pr) (hx : PWf x) (lb : List Lab) (hA : GoodA x.A lb 3) (i : Img) (hi : ImgOk 3 i) (a : Int) :
    Contract Try.prog 9 [prD x, .sl f (tri lb), imD i, i64 a] (apD i (applyI x lb i a)) [] := by
  refine contract_of_awpV ttok (rs := [.cell 8 43, .tmp 9]) Try.func9 rfl Try.ntmps9 (by simp) rfl fun E => ?_
  obtain ⟨q, s, S, K⟩ := i
  have hal := hx.a
  have hSl : S.length = 3 := hi.S
  have hKl : K.length = 3 := hi.K
  have hq : 0 ≤ q ∧ q ≤ 1000000 := hi.q
  have hc : ∀ x ∈ S, 0 ≤ x.1 ∧ x.1 ≤ 1000000 ∧ x.2.length ≤ 8 := hi.c
  have hk : ∀ x ∈ K, 0 ≤ x ∧ x ≤ 1000000 := hi.k
  clear hi
  obtain ⟨c0, c1, c2, m0, m1, m2, rfl⟩ : ∃ c0 c1 c2 m0 m1 m2, S = [(c0, m0), (c1, m1), (c2, m2)] := by
    match S, hSl with
    | [x0, x1, x2], _ => exact ⟨x0.1, x1.1, x2.1, x0.2, x1.2, x2.2, rfl⟩
  have hm0 := hc (c0, m0) (by simp)
  have hm1 := hc (c1, m1) (by simp)
  have hm2 := hc (c2, m2) (by simp)
  simp only at hm0 hm1 hm2
  unfold applyI
  by_cases h0 : a < 0
  · have d0 : decide (a < 0) = true := by simpa using h0
    rw [if_neg (by omega)]
    (repeat (first | refine awp_seq ?_ | refine awp_block ?_ | ((first | refine awp_skip ?_ | refine awp_exit ?_ | refine awp_reg ttok ?_ | (refine awp_draw ttok ?dr_calm ?_; (case dr_calm => decide +kernel)) | refine awp_condM ?_); simp (maxSteps := 4000000) only [↓reduceIte, Nat.reduceLT, Nat.reduceEqDiff, reduceCtorEq, Nat.reduceAdd, Nat.reduceMul, Int.reduceLE, Int.reduceLT, Int.reduceToNat, Nat.reduceLeDiff, Nat.reduceSub, Int.reduceEq, Nat.reduceBEq, evB, tyA, d0]; (repeat (with_reducible refine And.intro ?_ ?_; exact sdX)); (with_reducible first | refine awp_id ?_ | refine id_call ?_ | refine id_and ?_ | refine id_ex ?_ | refine id_all ?_ | refine id_nat ?_ | refine id_le ?_))))
    exact awp_ret (endsV [] (.inr rfl) (by simp (maxSteps := 4000000) only [↓reduceIte, Nat.reduceLT, Nat.reduceEqDiff, reduceCtorEq, Nat.reduceAdd, Nat.reduceMul, Int.reduceLE, Int.reduceLT, Int.reduceToNat, Nat.reduceLeDiff, Nat.reduceSub, Int.reduceEq, Nat.reduceBEq, evB, tyA, apD]; rfl) trivial evX)
  have d0 : decide (a < 0) = false := by simpa using h0
  by_cases h1 : (x.A.length : Int) ≤ a
  · have d1 : decide (a ≥ (x.A.length : Int)) = true := by simpa using h1
    rw [if_neg (by omega)]
    (repeat (first | refine awp_seq ?_ | refine awp_block ?_ | ((first | refine awp_skip ?_ | refine awp_exit ?_ | refine awp_reg ttok ?_ | (refine awp_draw ttok ?dr_calm ?_; (case dr_calm => decide +kernel)) | refine awp_condM ?_); simp (maxSteps := 4000000) only [↓reduceIte, Nat.reduceLT, Nat.reduceEqDiff, reduceCtorEq, Nat.reduceAdd, Nat.reduceMul, Int.reduceLE, Int.reduceLT, Int.reduceToNat, Nat.reduceLeDiff, Nat.reduceSub, Int.reduceEq, Nat.reduceBEq, evB, tyA, d0, d1, duo_len]; (repeat (with_reducible refine And.intro ?_ ?_; exact sdX)); (with_reducible first | refine awp_id ?_ | refine id_call ?_ | refine id_and ?_ | refine id_ex ?_ | refine id_all ?_ | refine id_nat ?_ | refine id_le ?_))))
    exact awp_ret (endsV [] (.inr rfl) (by simp (maxSteps := 4000000) only [↓reduceIte, Nat.reduceLT, Nat.reduceEqDiff, reduceCtorEq, Nat.reduceAdd, Nat.reduceMul, Int.reduceLE, Int.reduceLT, Int.reduceToNat, Nat.reduceLeDiff, Nat.reduceSub, Int.reduceEq, Nat.reduceBEq, evB, tyA, apD]; rfl) trivial evX)
  have d1 : decide (a ≥ (x.A.length : Int)) = false := by simp; omega
  rw [if_pos ⟨by omega, by omega⟩]
  obtain ⟨j, rfl⟩ := Int.eq_ofNat_of_zero_le (show 0 ≤ a by omega)
  have hj : j < x.A.length := by omega
  rw [Int.toNat_natCast]
  have gj := duo_get hj
  obtain ⟨d, k, o, e1, hkl, ho, e2⟩ := hA j hj
  have hTo := c_PTo x hx s (x.A.getD j (0, 0))
  generalize toD x.N s (findA x.A (x.A.getD j (0, 0))) = t at *
  rw [e1] at hTo gj ⊢
  (repeat (first | refine awp_seq ?_ | refine awp_block ?_ | ((first | refine awp_skip ?_ | refine awp_exit ?_ | refine awp_reg ttok ?_ | (refine awp_draw ttok ?dr_calm ?_; (case dr_calm => decide +kernel)) | refine awp_condM ?_); simp (maxSteps := 4000000) only [↓reduceIte, Nat.reduceLT, Nat.reduceEqDiff, reduceCtorEq, Nat.reduceAdd, Nat.reduceMul, Int.reduceLE, Int.reduceLT, Int.reduceToNat, Nat.reduceLeDiff, Nat.reduceSub, Int.reduceEq, Nat.reduceBEq, evB, tyA, d0, d1, duo_len, gj]; (repeat (with_reducible refine And.intro ?_ ?_; exact sdX)); (with_reducible first | refine awp_id ?_ | refine id_call ?_ | refine id_and ?_ | refine id_ex ?_ | refine id_all ?_ | refine id_nat ?_ | refine id_le ?_))))
  refine callVC_scal fnok18 hTo rfl ?_
  simp (maxSteps := 4000000) only [↓reduceIte, Nat.reduceLT, Nat.reduceEqDiff, reduceCtorEq, Nat.reduceAdd, Nat.reduceMul, Int.reduceLE, Int.reduceLT, Int.reduceToNat, Nat.reduceLeDiff, Nat.reduceSub, Int.reduceEq, Nat.reduceBEq, evB, tyA]
  (repeat (with_reducible refine And.intro ?_ ?_; exact sdX))
  by_cases ht : t < 0
  · have dt : decide (t < 0) = true := by simpa using ht
    rw [if_neg (by omega)]
    (repeat (first | refine awp_seq ?_ | refine awp_block ?_ | ((first | refine awp_skip ?_ | refine awp_exit ?_ | refine awp_reg ttok ?_ | (refine awp_draw ttok ?dr_calm ?_; (case dr_calm => decide +kernel)) | refine awp_condM ?_); simp (maxSteps := 4000000) only [↓reduceIte, Nat.reduceLT, Nat.reduceEqDiff, reduceCtorEq, Nat.reduceAdd, Nat.reduceMul, Int.reduceLE, Int.reduceLT, Int.reduceToNat, Nat.reduceLeDiff, Nat.reduceSub, Int.reduceEq, Nat.reduceBEq, evB, tyA, dt]; (repeat (with_reducible refine And.intro ?_ ?_; exact sdX)); (with_reducible first | refine awp_id ?_ | refine id_call ?_ | refine id_and ?_ | refine id_ex ?_ | refine id_all ?_ | refine id_nat ?_ | refine id_le ?_))))
    exact awp_ret (endsV [] (.inr rfl) (by simp (maxSteps := 4000000) only [↓reduceIte, Nat.reduceLT, Nat.reduceEqDiff, reduceCtorEq, Nat.reduceAdd, Nat.reduceMul, Int.reduceLE, Int.reduceLT, Int.reduceToNat, Nat.reduceLeDiff, Nat.reduceSub, Int.reduceEq, Nat.reduceBEq, evB, tyA, apD]; rfl) trivial evX)
  have dt : decide (t < 0) = false := by simpa using ht
  rw [if_pos (by omega)]
  have dk : decide ((k : Int) < 0) = false := by simp
  have dl : decide ((k : Int) ≥ (lb.length : Int)) = false := by simp; omega
  have gk := tri_get hkl
  have hOt := c_other (lb.getD k (0, 0, 0)).1 (lb.getD k (0, 0, 0)).2.1 (lb.getD k (0, 0, 0)).2.2 d
  rw [e2] at hOt
  have hot : otherN lb (d, (k : Int)) = o := by unfold otherN; simp only [Int.toNat_natCast]; rw [e2]; simp
  unfold didI
  rw [hot]
  generalize lb.getD k (0, 0, 0) = z at *
  have do0 : decide ((o : Int) < 0) = false := by simp
  have hSn : (srs [(c0, m0), (c1, m1), (c2, m2)]).length = 3 := rfl
  have hSn2 : ([(c0, m0), (c1, m1), (c2, m2)] : List (Int × List Int)).length = 3 := rfl
  have doS : decide ((o : Int) ≥ ((3 : Nat) : Int)) = false := by simp; omega
  have doS2 : decide ((o : Int) ≥ (3 : Int)) = false := by simp; omega
  have doK : decide ((o : Int) ≥ (K.length : Int)) = false := by simp; omega
  have hCp := c_sCopy3 q s false false c0 c1 c2 m0 m1 m2 K (by omega) (by omega) (by omega) (by omega)
  have hqw : IntKind.i64.wrap (q + 1) = q + 1 := i64_in (by omega) (by omega)
  (repeat (first | refine awp_seq ?_ | refine awp_block ?_ | ((first | refine awp_skip ?_ | refine awp_exit ?_ | refine awp_reg ttok ?_ | (refine awp_draw ttok ?dr_calm ?_; (case dr_calm => decide +kernel)) | refine awp_condM ?_); simp (maxSteps := 4000000) only [↓reduceIte, Nat.reduceLT, Nat.reduceEqDiff, reduceCtorEq, Nat.reduceAdd, Nat.reduceMul, Int.reduceLE, Int.reduceLT, Int.reduceToNat, Nat.reduceLeDiff, Nat.reduceSub, Int.reduceEq, Nat.reduceBEq, evB, tyA, dt, dk, dl, tri_len]; (repeat (with_reducible refine And.intro ?_ ?_; exact sdX)); (with_reducible first | refine awp_id ?_ | refine id_call ?_ | refine id_and ?_ | refine id_ex ?_ | refine id_all ?_ | refine id_nat ?_ | refine id_le ?_))))
  refine awp_drawG ttok ((0, none) :: (1, none) :: (2, none) :: (3, none) :: (4, none) :: (5, none) :: (6, none) :: (7, some []) :: (8, none) :: []) ([]) ([]) (by decide +kernel) fun O hO => ?_; simp only [OpsAre, Nat.reduceAdd, and_true, List.toList_toArray, List.append_eq, List.cons_append, List.nil_append] at hO; simp (maxSteps := 4000000) only [↓reduceIte, Nat.reduceLT, Nat.reduceEqDiff, reduceCtorEq, Nat.reduceAdd, Nat.reduceMul, Int.reduceLE, Int.reduceLT, Int.reduceToNat, Nat.reduceLeDiff, Nat.reduceSub, Int.reduceEq, Nat.reduceBEq, evB, tyA, hO, gk, tri_len]; (repeat (with_reducible refine And.intro ?_ ?_; exact sdX))
  refine callVC_scal fnok19 hOt rfl ?_
  simp (maxSteps := 4000000) only [↓reduceIte, Nat.reduceLT, Nat.reduceEqDiff, reduceCtorEq, Nat.reduceAdd, Nat.reduceMul, Int.reduceLE, Int.reduceLT, Int.reduceToNat, Nat.reduceLeDiff, Nat.reduceSub, Int.reduceEq, Nat.reduceBEq, evB, tyA, hO]
  (repeat (with_reducible refine And.intro ?_ ?_; exact sdX))
  (repeat (first | refine awp_seq ?_ | refine awp_block ?_ | ((first | refine awp_skip ?_ | refine awp_exit ?_ | refine awp_reg ttok ?_ | (refine awp_draw ttok ?dr_calm ?_; (case dr_calm => decide +kernel)) | refine awp_condM ?_); simp (maxSteps := 4000000) only [↓reduceIte, Nat.reduceLT, Nat.reduceEqDiff, reduceCtorEq, Nat.reduceAdd, Nat.reduceMul, Int.reduceLE, Int.reduceLT, Int.reduceToNat, Nat.reduceLeDiff, Nat.reduceSub, Int.reduceEq, Nat.reduceBEq, evB, tyA, do0, doS, doS2, doK, hSn, ints_len]; (repeat (with_reducible refine And.intro ?_ ?_; exact sdX)); (with_reducible first | refine awp_id ?_ | refine id_call ?_ | refine id_and ?_ | refine id_ex ?_ | refine id_all ?_ | refine id_nat ?_ | refine id_le ?_))))
  refine callVC_mk fnok20 hCp rfl ?_
  simp (maxSteps := 4000000) only [↓reduceIte, Nat.reduceLT, Nat.reduceEqDiff, reduceCtorEq, Nat.reduceAdd, Nat.reduceMul, Int.reduceLE, Int.reduceLT, Int.reduceToNat, Nat.reduceLeDiff, Nat.reduceSub, Int.reduceEq, Nat.reduceBEq, evB, tyA]
  (repeat (with_reducible refine And.intro ?_ ?_; exact sdX))
  by_cases h2 : d = 2
  · subst h2
    have k2 : ((2 : Int) == 2) = true := rfl
    have gK := ints_get (l := K) (i := o) (by omega)
    have hv := hk _ (getD_mem (l := K) (i := o) (by omega) 0)
    rw [if_pos rfl]
    generalize K.getD o 0 = v at *
    have hvw : IntKind.i64.wrap (v + 1) = v + 1 := i64_in (by omega) (by omega)
    have hs : ∀ y : Int, List.set (ints K) o [D.v (Value.int IntKind.i64 y)] = ints (K.set o y) := fun y => by simp [ints]
    have hl2 : (K.set o (v + 1)).length = K.length := List.length_set
    have hKt : List.take K.length (K.set o (v + 1)) = K.set o (v + 1) := List.take_of_length_le (by omega)
    (repeat (first | refine awp_seq ?_ | refine awp_block ?_ | ((first | refine awp_skip ?_ | refine awp_exit ?_ | refine awp_reg ttok ?_ | (refine awp_draw ttok ?dr_calm ?_; (case dr_calm => decide +kernel)) | refine awp_condM ?_); simp (maxSteps := 4000000) only [↓reduceIte, Nat.reduceLT, Nat.reduceEqDiff, reduceCtorEq, Nat.reduceAdd, Nat.reduceMul, Int.reduceLE, Int.reduceLT, Int.reduceToNat, Nat.reduceLeDiff, Nat.reduceSub, Int.reduceEq, Nat.reduceBEq, evB, tyA, hqw, k2, gK, ints_len, hvw, hs]; (repeat (with_reducible refine And.intro ?_ ?_; exact sdX)); (with_reducible first | refine awp_id ?_ | refine id_call ?_ | refine id_and ?_ | refine id_ex ?_ | refine id_all ?_ | refine id_nat ?_ | refine id_le ?_))))
    refine awp_pureO 111001 (ids := [111003, 111004, 111005]) (by simp (maxSteps := 4000000) only [↓reduceIte, Nat.reduceLT, Nat.reduceEqDiff, reduceCtorEq, Nat.reduceAdd, Nat.reduceMul, Int.reduceLE, Int.reduceLT, Int.reduceToNat, Nat.reduceLeDiff, Nat.reduceSub, Int.reduceEq, Nat.reduceBEq, evB]; rfl) rfl (by simp (maxSteps := 4000000) only [↓reduceIte, Nat.reduceLT, Nat.reduceEqDiff, reduceCtorEq, Nat.reduceAdd, Nat.reduceMul, Int.reduceLE, Int.reduceLT, Int.reduceToNat, Nat.reduceLeDiff, Nat.reduceSub, Int.reduceEq, Nat.reduceBEq, evB, ints_take, List.take_length]; rfl) (by simp (maxSteps := 4000000) only [↓reduceIte, Nat.reduceLT, Nat.reduceEqDiff, reduceCtorEq, Nat.reduceAdd, Nat.reduceMul, Int.reduceLE, Int.reduceLT, Int.reduceToNat, Nat.reduceLeDiff, Nat.reduceSub, Int.reduceEq, Nat.reduceBEq, evB, ints_len]) (by decide) ?_
    refine awp_pureO 1002 (ids := [111001, 111002]) (by simp (maxSteps := 4000000) only [↓reduceIte, Nat.reduceLT, Nat.reduceEqDiff, reduceCtorEq, Nat.reduceAdd, Nat.reduceMul, Int.reduceLE, Int.reduceLT, Int.reduceToNat, Nat.reduceLeDiff, Nat.reduceSub, Int.reduceEq, Nat.reduceBEq, evB]; rfl) rfl (by simp (maxSteps := 4000000) only [↓reduceIte, Nat.reduceLT, Nat.reduceEqDiff, reduceCtorEq, Nat.reduceAdd, Nat.reduceMul, Int.reduceLE, Int.reduceLT, Int.reduceToNat, Nat.reduceLeDiff, Nat.reduceSub, Int.reduceEq, Nat.reduceBEq, evB, ints_take, hKt, List.take_succ_cons, List.take_zero, List.take_nil]; rfl) (by simp (maxSteps := 4000000) only [↓reduceIte, Nat.reduceLT, Nat.reduceEqDiff, reduceCtorEq, Nat.reduceAdd, Nat.reduceMul, Int.reduceLE, Int.reduceLT, Int.reduceToNat, Nat.reduceLeDiff, Nat.reduceSub, Int.reduceEq, Nat.reduceBEq, evB, ints_len, hl2, List.length_cons, List.length_nil]) (by decide) ?_
    (repeat (first | refine awp_seq ?_ | refine awp_block ?_ | ((first | refine awp_skip ?_ | refine awp_exit ?_ | refine awp_reg ttok ?_ | (refine awp_draw ttok ?dr_calm ?_; (case dr_calm => decide +kernel)) | refine awp_condM ?_); simp (maxSteps := 4000000) only [↓reduceIte, Nat.reduceLT, Nat.reduceEqDiff, reduceCtorEq, Nat.reduceAdd, Nat.reduceMul, Int.reduceLE, Int.reduceLT, Int.reduceToNat, Nat.reduceLeDiff, Nat.reduceSub, Int.reduceEq, Nat.reduceBEq, evB, tyA]; (repeat (with_reducible refine And.intro ?_ ?_; exact sdX)); (with_reducible first | refine awp_id ?_ | refine id_call ?_ | refine id_and ?_ | refine id_ex ?_ | refine id_all ?_ | refine id_nat ?_ | refine id_le ?_))))
    exact awp_ret (endsV [] (.inr rfl) (by simp (maxSteps := 4000000) only [↓reduceIte, Nat.reduceLT, Nat.reduceEqDiff, reduceCtorEq, Nat.reduceAdd, Nat.reduceMul, Int.reduceLE, Int.reduceLT, Int.reduceToNat, Nat.reduceLeDiff, Nat.reduceSub, Int.reduceEq, Nat.reduceBEq, evB, tyA, apD]; rfl) trivial evX)
  · have k2 : (d == 2) = false := by simpa using h2
    rw [if_neg h2]
    have h1k : [[i64 (k : Int)]] = ints [(k : Int)] := rfl
    have hr1 : (∀ row ∈ ints [(k : Int)], row.length = 1) = True := by simp [ints]
    have hKt : List.take K.length K = K := List.take_length
    match o, ho with
    | 0, _ =>
      have hcw : IntKind.i64.wrap (c0 + 1) = c0 + 1 := i64_in (by omega) (by omega)
      have hml : (m0 ++ [(k : Int)]).length = m0.length + 1 := by simp
      have hmt : List.take m0.length m0 = m0 := List.take_length
      have hsw : IntKind.i64.wrap (((m0.length + 1 : Nat) : Int) - 8) = (m0.length : Int) - 7 := by rw [show ((m0.length + 1 : Nat) : Int) - 8 = (m0.length : Int) - 7 by omega]; exact i64_in (by omega) (by omega)
      have hmx : (if 0 > (m0.length : Int) - 7 then (0 : Int) else (m0.length : Int) - 7).toNat = m0.length - 7 := by split <;> omega
      (repeat (first | refine awp_seq ?_ | refine awp_block ?_ | ((first | refine awp_skip ?_ | refine awp_exit ?_ | refine awp_reg ttok ?_ | (refine awp_draw ttok ?dr_calm ?_; (case dr_calm => decide +kernel)) | refine awp_condM ?_); simp (maxSteps := 4000000) only [↓reduceIte, Nat.reduceLT, Nat.reduceEqDiff, reduceCtorEq, Nat.reduceAdd, Nat.reduceMul, Int.reduceLE, Int.reduceLT, Int.reduceToNat, Nat.reduceLeDiff, Nat.reduceSub, Int.reduceEq, Nat.reduceBEq, evB, tyA, hqw, k2, List.getD_cons_zero, List.getD_cons_succ, List.length_cons, List.length_nil, Nat.reduceAdd, List.set_cons_zero, List.set_cons_succ]; (repeat (with_reducible refine And.intro ?_ ?_; exact sdX)); (with_reducible first | refine awp_id ?_ | refine id_call ?_ | refine id_and ?_ | refine id_ex ?_ | refine id_all ?_ | refine id_nat ?_ | refine id_le ?_))))
      refine awp_drawG ttok ((0, none) :: (1, none) :: (2, none) :: (3, none) :: (4, none) :: (5, none) :: (6, none) :: (7, none) :: (8, some [0, 1, 2, 3, 4, 5]) :: (9, some []) :: (10, none) :: []) ([]) ([]) (by decide +kernel) fun O hO => ?_; simp only [OpsAre, Nat.reduceAdd, and_true, List.toList_toArray, List.append_eq, List.cons_append, List.nil_append] at hO; simp (maxSteps := 4000000) only [↓reduceIte, Nat.reduceLT, Nat.reduceEqDiff, reduceCtorEq, Nat.reduceAdd, Nat.reduceMul, Int.reduceLE, Int.reduceLT, Int.reduceToNat, Nat.reduceLeDiff, Nat.reduceSub, Int.reduceEq, Nat.reduceBEq, evB, tyA, hO, List.getD_cons_zero, List.getD_cons_succ, List.length_cons, List.length_nil, Nat.reduceAdd, List.set_cons_zero, List.set_cons_succ, h1k, hr1, ints_app, ints_len, ints_take, hmt, hml]; (repeat (with_reducible refine And.intro ?_ ?_; exact sdX))
      (repeat (first | refine awp_seq ?_ | refine awp_block ?_ | ((first | refine awp_skip ?_ | refine awp_exit ?_ | refine awp_reg ttok ?_ | (refine awp_draw ttok ?dr_calm ?_; (case dr_calm => decide +kernel)) | refine awp_condM ?_); simp (maxSteps := 4000000) only [↓reduceIte, Nat.reduceLT, Nat.reduceEqDiff, reduceCtorEq, Nat.reduceAdd, Nat.reduceMul, Int.reduceLE, Int.reduceLT, Int.reduceToNat, Nat.reduceLeDiff, Nat.reduceSub, Int.reduceEq, Nat.reduceBEq, evB, tyA]; (repeat (with_reducible refine And.intro ?_ ?_; exact sdX)); (with_reducible first | refine awp_id ?_ | refine id_call ?_ | refine id_and ?_ | refine id_ex ?_ | refine id_all ?_ | refine id_nat ?_ | refine id_le ?_))))
      refine awp_drawG ttok ((0, none) :: (1, none) :: (2, none) :: (3, none) :: (4, none) :: (5, none) :: (6, none) :: (7, none) :: (8, none) :: (9, none) :: (10, none) :: (11, none) :: (12, none) :: (13, none) :: (14, none) :: (15, none) :: (16, none) :: (17, none) :: (18, some []) :: []) ([]) ([]) (by decide +kernel) fun O hO => ?_; simp only [OpsAre, Nat.reduceAdd, and_true, List.toList_toArray, List.append_eq, List.cons_append, List.nil_append] at hO; simp (maxSteps := 4000000) only [↓reduceIte, Nat.reduceLT, Nat.reduceEqDiff, reduceCtorEq, Nat.reduceAdd, Nat.reduceMul, Int.reduceLE, Int.reduceLT, Int.reduceToNat, Nat.reduceLeDiff, Nat.reduceSub, Int.reduceEq, Nat.reduceBEq, evB, tyA, hO, List.getD_cons_zero, List.getD_cons_succ, List.length_cons, List.length_nil, Nat.reduceAdd, List.set_cons_zero, List.set_cons_succ, hcw, hsw, hmx, hml, ints_len]; (repeat (with_reducible refine And.intro ?_ ?_; exact sdX))
      (repeat (first | refine awp_seq ?_ | refine awp_block ?_ | ((first | refine awp_skip ?_ | refine awp_exit ?_ | refine awp_reg ttok ?_ | (refine awp_draw ttok ?dr_calm ?_; (case dr_calm => decide +kernel)) | refine awp_condM ?_); simp (maxSteps := 4000000) only [↓reduceIte, Nat.reduceLT, Nat.reduceEqDiff, reduceCtorEq, Nat.reduceAdd, Nat.reduceMul, Int.reduceLE, Int.reduceLT, Int.reduceToNat, Nat.reduceLeDiff, Nat.reduceSub, Int.reduceEq, Nat.reduceBEq, evB, tyA]; (repeat (with_reducible refine And.intro ?_ ?_; exact sdX)); (with_reducible first | refine awp_id ?_ | refine id_call ?_ | refine id_and ?_ | refine id_ex ?_ | refine id_all ?_ | refine id_nat ?_ | refine id_le ?_))))
      have hl8 : List.take (m0.length + 1 - (m0.length - 7)) (List.drop (m0.length - 7) (m0 ++ [(k : Int)])) = last8 (m0 ++ [(k : Int)]) := by
        unfold last8
        rw [hml, show m0.length + 1 - 8 = m0.length - 7 by omega, List.take_of_length_le (by rw [List.length_drop, hml]; exact Nat.le_refl _)]
      refine awp_pureO 111001 (ids := [111003, 111004, 111005]) (by simp (maxSteps := 4000000) only [↓reduceIte, Nat.reduceLT, Nat.reduceEqDiff, reduceCtorEq, Nat.reduceAdd, Nat.reduceMul, Int.reduceLE, Int.reduceLT, Int.reduceToNat, Nat.reduceLeDiff, Nat.reduceSub, Int.reduceEq, Nat.reduceBEq, evB]; rfl) rfl (by simp (maxSteps := 4000000) only [↓reduceIte, Nat.reduceLT, Nat.reduceEqDiff, reduceCtorEq, Nat.reduceAdd, Nat.reduceMul, Int.reduceLE, Int.reduceLT, Int.reduceToNat, Nat.reduceLeDiff, Nat.reduceSub, Int.reduceEq, Nat.reduceBEq, evB, ints_take, ints_drop, hl8, List.take_length]; rfl) (by simp (maxSteps := 4000000) only [↓reduceIte, Nat.reduceLT, Nat.reduceEqDiff, reduceCtorEq, Nat.reduceAdd, Nat.reduceMul, Int.reduceLE, Int.reduceLT, Int.reduceToNat, Nat.reduceLeDiff, Nat.reduceSub, Int.reduceEq, Nat.reduceBEq, evB, ints_len, hml]; omega) (by decide) ?_
      refine awp_pureO 1002 (ids := [111001, 111002]) (by simp (maxSteps := 4000000) only [↓reduceIte, Nat.reduceLT, Nat.reduceEqDiff, reduceCtorEq, Nat.reduceAdd, Nat.reduceMul, Int.reduceLE, Int.reduceLT, Int.reduceToNat, Nat.reduceLeDiff, Nat.reduceSub, Int.reduceEq, Nat.reduceBEq, evB]; rfl) rfl (by simp (maxSteps := 4000000) only [↓reduceIte, Nat.reduceLT, Nat.reduceEqDiff, reduceCtorEq, Nat.reduceAdd, Nat.reduceMul, Int.reduceLE, Int.reduceLT, Int.reduceToNat, Nat.reduceLeDiff, Nat.reduceSub, Int.reduceEq, Nat.reduceBEq, evB, ints_take, hKt, List.take_succ_cons, List.take_zero, List.take_nil]; rfl) (by simp (maxSteps := 4000000) only [↓reduceIte, Nat.reduceLT, Nat.reduceEqDiff, reduceCtorEq, Nat.reduceAdd, Nat.reduceMul, Int.reduceLE, Int.reduceLT, Int.reduceToNat, Nat.reduceLeDiff, Nat.reduceSub, Int.reduceEq, Nat.reduceBEq, evB, ints_len, List.length_cons, List.length_nil]) (by decide) ?_
      exact awp_ret (endsV [] (.inr rfl) (by simp (maxSteps := 4000000) only [↓reduceIte, Nat.reduceLT, Nat.reduceEqDiff, reduceCtorEq, Nat.reduceAdd, Nat.reduceMul, Int.reduceLE, Int.reduceLT, Int.reduceToNat, Nat.reduceLeDiff, Nat.reduceSub, Int.reduceEq, Nat.reduceBEq, evB, tyA, apD]; rfl) trivial evX)
    | 1, _ =>
      have hcw : IntKind.i64.wrap (c1 + 1) = c1 + 1 := i64_in (by omega) (by omega)
      have hml : (m1 ++ [(k : Int)]).length = m1.length + 1 := by simp
      have hmt : List.take m1.length m1 = m1 := List.take_length
      have hsw : IntKind.i64.wrap (((m1.length + 1 : Nat) : Int) - 8) = (m1.length : Int) - 7 := by rw [show ((m1.length + 1 : Nat) : Int) - 8 = (m1.length : Int) - 7 by omega]; exact i64_in (by omega) (by omega)
      have hmx : (if 0 > (m1.length : Int) - 7 then (0 : Int) else (m1.length : Int) - 7).toNat = m1.length - 7 := by split <;> omega
      (repeat (first | refine awp_seq ?_ | refine awp_block ?_ | ((first | refine awp_skip ?_ | refine awp_exit ?_ | refine awp_reg ttok ?_ | (refine awp_draw ttok ?dr_calm ?_; (case dr_calm => decide +kernel)) | refine awp_condM ?_); simp (maxSteps := 4000000) only [↓reduceIte, Nat.reduceLT, Nat.reduceEqDiff, reduceCtorEq, Nat.reduceAdd, Nat.reduceMul, Int.reduceLE, Int.reduceLT, Int.reduceToNat, Nat.reduceLeDiff, Nat.reduceSub, Int.reduceEq, Nat.reduceBEq, evB, tyA, hqw, k2, List.getD_cons_zero, List.getD_cons_succ, List.length_cons, List.length_nil, Nat.reduceAdd, List.set_cons_zero, List.set_cons_succ]; (repeat (with_reducible refine And.intro ?_ ?_; exact sdX)); (with_reducible first | refine awp_id ?_ | refine id_call ?_ | refine id_and ?_ | refine id_ex ?_ | refine id_all ?_ | refine id_nat ?_ | refine id_le ?_))))
      refine awp_drawG ttok ((0, none) :: (1, none) :: (2, none) :: (3, none) :: (4, none) :: (5, none) :: (6, none) :: (7, none) :: (8, some [0, 1, 2, 3, 4, 5]) :: (9, some []) :: (10, none) :: []) ([]) ([]) (by decide +kernel) fun O hO => ?_; simp only [OpsAre, Nat.reduceAdd, and_true, List.toList_toArray, List.append_eq, List.cons_append, List.nil_append] at hO; simp (maxSteps := 4000000) only [↓reduceIte, Nat.reduceLT, Nat.reduceEqDiff, reduceCtorEq, Nat.reduceAdd, Nat.reduceMul, Int.reduceLE, Int.reduceLT, Int.reduceToNat, Nat.reduceLeDiff, Nat.reduceSub, Int.reduceEq, Nat.reduceBEq, evB, tyA, hO, List.getD_cons_zero, List.getD_cons_succ, List.length_cons, List.length_nil, Nat.reduceAdd, List.set_cons_zero, List.set_cons_succ, h1k, hr1, ints_app, ints_len, ints_take, hmt, hml]; (repeat (with_reducible refine And.intro ?_ ?_; exact sdX))
      (repeat (first | refine awp_seq ?_ | refine awp_block ?_ | ((first | refine awp_skip ?_ | refine awp_exit ?_ | refine awp_reg ttok ?_ | (refine awp_draw ttok ?dr_calm ?_; (case dr_calm => decide +kernel)) | refine awp_condM ?_); simp (maxSteps := 4000000) only [↓reduceIte, Nat.reduceLT, Nat.reduceEqDiff, reduceCtorEq, Nat.reduceAdd, Nat.reduceMul, Int.reduceLE, Int.reduceLT, Int.reduceToNat, Nat.reduceLeDiff, Nat.reduceSub, Int.reduceEq, Nat.reduceBEq, evB, tyA]; (repeat (with_reducible refine And.intro ?_ ?_; exact sdX)); (with_reducible first | refine awp_id ?_ | refine id_call ?_ | refine id_and ?_ | refine id_ex ?_ | refine id_all ?_ | refine id_nat ?_ | refine id_le ?_))))
      refine awp_drawG ttok ((0, none) :: (1, none) :: (2, none) :: (3, none) :: (4, none) :: (5, none) :: (6, none) :: (7, none) :: (8, none) :: (9, none) :: (10, none) :: (11, none) :: (12, none) :: (13, none) :: (14, none) :: (15, none) :: (16, none) :: (17, none) :: (18, some []) :: []) ([]) ([]) (by decide +kernel) fun O hO => ?_; simp only [OpsAre, Nat.reduceAdd, and_true, List.toList_toArray, List.append_eq, List.cons_append, List.nil_append] at hO; simp (maxSteps := 4000000) only [↓reduceIte, Nat.reduceLT, Nat.reduceEqDiff, reduceCtorEq, Nat.reduceAdd, Nat.reduceMul, Int.reduceLE, Int.reduceLT, Int.reduceToNat, Nat.reduceLeDiff, Nat.reduceSub, Int.reduceEq, Nat.reduceBEq, evB, tyA, hO, List.getD_cons_zero, List.getD_cons_succ, List.length_cons, List.length_nil, Nat.reduceAdd, List.set_cons_zero, List.set_cons_succ, hcw, hsw, hmx, hml, ints_len]; (repeat (with_reducible refine And.intro ?_ ?_; exact sdX))
      (repeat (first | refine awp_seq ?_ | refine awp_block ?_ | ((first | refine awp_skip ?_ | refine awp_exit ?_ | refine awp_reg ttok ?_ | (refine awp_draw ttok ?dr_calm ?_; (case dr_calm => decide +kernel)) | refine awp_condM ?_); simp (maxSteps := 4000000) only [↓reduceIte, Nat.reduceLT, Nat.reduceEqDiff, reduceCtorEq, Nat.reduceAdd, Nat.reduceMul, Int.reduceLE, Int.reduceLT, Int.reduceToNat, Nat.reduceLeDiff, Nat.reduceSub, Int.reduceEq, Nat.reduceBEq, evB, tyA]; (repeat (with_reducible refine And.intro ?_ ?_; exact sdX)); (with_reducible first | refine awp_id ?_ | refine id_call ?_ | refine id_and ?_ | refine id_ex ?_ | refine id_all ?_ | refine id_nat ?_ | refine id_le ?_))))
      have hl8 : List.take (m1.length + 1 - (m1.length - 7)) (List.drop (m1.length - 7) (m1 ++ [(k : Int)])) = last8 (m1 ++ [(k : Int)]) := by
        unfold last8
        rw [hml, show m1.length + 1 - 8 = m1.length - 7 by omega, List.take_of_length_le (by rw [List.length_drop, hml]; exact Nat.le_refl _)]
      refine awp_pureO 111001 (ids := [111003, 111004, 111005]) (by simp (maxSteps := 4000000) only [↓reduceIte, Nat.reduceLT, Nat.reduceEqDiff, reduceCtorEq, Nat.reduceAdd, Nat.reduceMul, Int.reduceLE, Int.reduceLT, Int.reduceToNat, Nat.reduceLeDiff, Nat.reduceSub, Int.reduceEq, Nat.reduceBEq, evB]; rfl) rfl (by simp (maxSteps := 4000000) only [↓reduceIte, Nat.reduceLT, Nat.reduceEqDiff, reduceCtorEq, Nat.reduceAdd, Nat.reduceMul, Int.reduceLE, Int.reduceLT, Int.reduceToNat, Nat.reduceLeDiff, Nat.reduceSub, Int.reduceEq, Nat.reduceBEq, evB, ints_take, ints_drop, hl8, List.take_length]; rfl) (by simp (maxSteps := 4000000) only [↓reduceIte, Nat.reduceLT, Nat.reduceEqDiff, reduceCtorEq, Nat.reduceAdd, Nat.reduceMul, Int.reduceLE, Int.reduceLT, Int.reduceToNat, Nat.reduceLeDiff, Nat.reduceSub, Int.reduceEq, Nat.reduceBEq, evB, ints_len, hml]; omega) (by decide) ?_
      refine awp_pureO 1002 (ids := [111001, 111002]) (by simp (maxSteps := 4000000) only [↓reduceIte, Nat.reduceLT, Nat.reduceEqDiff, reduceCtorEq, Nat.reduceAdd, Nat.reduceMul, Int.reduceLE, Int.reduceLT, Int.reduceToNat, Nat.reduceLeDiff, Nat.reduceSub, Int.reduceEq, Nat.reduceBEq, evB]; rfl) rfl (by simp (maxSteps := 4000000) only [↓reduceIte, Nat.reduceLT, Nat.reduceEqDiff, reduceCtorEq, Nat.reduceAdd, Nat.reduceMul, Int.reduceLE, Int.reduceLT, Int.reduceToNat, Nat.reduceLeDiff, Nat.reduceSub, Int.reduceEq, Nat.reduceBEq, evB, ints_take, hKt, List.take_succ_cons, List.take_zero, List.take_nil]; rfl) (by simp (maxSteps := 4000000) only [↓reduceIte, Nat.reduceLT, Nat.reduceEqDiff, reduceCtorEq, Nat.reduceAdd, Nat.reduceMul, Int.reduceLE, Int.reduceLT, Int.reduceToNat, Nat.reduceLeDiff, Nat.reduceSub, Int.reduceEq, Nat.reduceBEq, evB, ints_len, List.length_cons, List.length_nil]) (by decide) ?_
      exact awp_ret (endsV [] (.inr rfl) (by simp (maxSteps := 4000000) only [↓reduceIte, Nat.reduceLT, Nat.reduceEqDiff, reduceCtorEq, Nat.reduceAdd, Nat.reduceMul, Int.reduceLE, Int.reduceLT, Int.reduceToNat, Nat.reduceLeDiff, Nat.reduceSub, Int.reduceEq, Nat.reduceBEq, evB, tyA, apD]; rfl) trivial evX)
    | 2, _ =>
      have hcw : IntKind.i64.wrap (c2 + 1) = c2 + 1 := i64_in (by omega) (by omega)
      have hml : (m2 ++ [(k : Int)]).length = m2.length + 1 := by simp
      have hmt : List.take m2.length m2 = m2 := List.take_length
      have hsw : IntKind.i64.wrap (((m2.length + 1 : Nat) : Int) - 8) = (m2.length : Int) - 7 := by rw [show ((m2.length + 1 : Nat) : Int) - 8 = (m2.length : Int) - 7 by omega]; exact i64_in (by omega) (by omega)
      have hmx : (if 0 > (m2.length : Int) - 7 then (0 : Int) else (m2.length : Int) - 7).toNat = m2.length - 7 := by split <;> omega
      (repeat (first | refine awp_seq ?_ | refine awp_block ?_ | ((first | refine awp_skip ?_ | refine awp_exit ?_ | refine awp_reg ttok ?_ | (refine awp_draw ttok ?dr_calm ?_; (case dr_calm => decide +kernel)) | refine awp_condM ?_); simp (maxSteps := 4000000) only [↓reduceIte, Nat.reduceLT, Nat.reduceEqDiff, reduceCtorEq, Nat.reduceAdd, Nat.reduceMul, Int.reduceLE, Int.reduceLT, Int.reduceToNat, Nat.reduceLeDiff, Nat.reduceSub, Int.reduceEq, Nat.reduceBEq, evB, tyA, hqw, k2, List.getD_cons_zero, List.getD_cons_succ, List.length_cons, List.length_nil, Nat.reduceAdd, List.set_cons_zero, List.set_cons_succ]; (repeat (with_reducible refine And.intro ?_ ?_; exact sdX)); (with_reducible first | refine awp_id ?_ | refine id_call ?_ | refine id_and ?_ | refine id_ex ?_ | refine id_all ?_ | refine id_nat ?_ | refine id_le ?_))))
      refine awp_drawG ttok ((0, none) :: (1, none) :: (2, none) :: (3, none) :: (4, none) :: (5, none) :: (6, none) :: (7, none) :: (8, some [0, 1, 2, 3, 4, 5]) :: (9, some []) :: (10, none) :: []) ([]) ([]) (by decide +kernel) fun O hO => ?_; simp only [OpsAre, Nat.reduceAdd, and_true, List.toList_toArray, List.append_eq, List.cons_append, List.nil_append] at hO; simp (maxSteps := 4000000) only [↓reduceIte, Nat.reduceLT, Nat.reduceEqDiff, reduceCtorEq, Nat.reduceAdd, Nat.reduceMul, Int.reduceLE, Int.reduceLT, Int.reduceToNat, Nat.reduceLeDiff, Nat.reduceSub, Int.reduceEq, Nat.reduceBEq, evB, tyA, hO, List.getD_cons_zero, List.getD_cons_succ, List.length_cons, List.length_nil, Nat.reduceAdd, List.set_cons_zero, List.set_cons_succ, h1k, hr1, ints_app, ints_len, ints_take, hmt, hml]; (repeat (with_reducible refine And.intro ?_ ?_; exact sdX))
      (repeat (first | refine awp_seq ?_ | refine awp_block ?_ | ((first | refine awp_skip ?_ | refine awp_exit ?_ | refine awp_reg ttok ?_ | (refine awp_draw ttok ?dr_calm ?_; (case dr_calm => decide +kernel)) | refine awp_condM ?_); simp (maxSteps := 4000000) only [↓reduceIte, Nat.reduceLT, Nat.reduceEqDiff, reduceCtorEq, Nat.reduceAdd, Nat.reduceMul, Int.reduceLE, Int.reduceLT, Int.reduceToNat, Nat.reduceLeDiff, Nat.reduceSub, Int.reduceEq, Nat.reduceBEq, evB, tyA]; (repeat (with_reducible refine And.intro ?_ ?_; exact sdX)); (with_reducible first | refine awp_id ?_ | refine id_call ?_ | refine id_and ?_ | refine id_ex ?_ | refine id_all ?_ | refine id_nat ?_ | refine id_le ?_))))
      refine awp_drawG ttok ((0, none) :: (1, none) :: (2, none) :: (3, none) :: (4, none) :: (5, none) :: (6, none) :: (7, none) :: (8, none) :: (9, none) :: (10, none) :: (11, none) :: (12, none) :: (13, none) :: (14, none) :: (15, none) :: (16, none) :: (17, none) :: (18, some []) :: []) ([]) ([]) (by decide +kernel) fun O hO => ?_; simp only [OpsAre, Nat.reduceAdd, and_true, List.toList_toArray, List.append_eq, List.cons_append, List.nil_append] at hO; simp (maxSteps := 4000000) only [↓reduceIte, Nat.reduceLT, Nat.reduceEqDiff, reduceCtorEq, Nat.reduceAdd, Nat.reduceMul, Int.reduceLE, Int.reduceLT, Int.reduceToNat, Nat.reduceLeDiff, Nat.reduceSub, Int.reduceEq, Nat.reduceBEq, evB, tyA, hO, List.getD_cons_zero, List.getD_cons_succ, List.length_cons, List.length_nil, Nat.reduceAdd, List.set_cons_zero, List.set_cons_succ, hcw, hsw, hmx, hml, ints_len]; (repeat (with_reducible refine And.intro ?_ ?_; exact sdX))
      (repeat (first | refine awp_seq ?_ | refine awp_block ?_ | ((first | refine awp_skip ?_ | refine awp_exit ?_ | refine awp_reg ttok ?_ | (refine awp_draw ttok ?dr_calm ?_; (case dr_calm => decide +kernel)) | refine awp_condM ?_); simp (maxSteps := 4000000) only [↓reduceIte, Nat.reduceLT, Nat.reduceEqDiff, reduceCtorEq, Nat.reduceAdd, Nat.reduceMul, Int.reduceLE, Int.reduceLT, Int.reduceToNat, Nat.reduceLeDiff, Nat.reduceSub, Int.reduceEq, Nat.reduceBEq, evB, tyA]; (repeat (with_reducible refine And.intro ?_ ?_; exact sdX)); (with_reducible first | refine awp_id ?_ | refine id_call ?_ | refine id_and ?_ | refine id_ex ?_ | refine id_all ?_ | refine id_nat ?_ | refine id_le ?_))))
      have hl8 : List.take (m2.length + 1 - (m2.length - 7)) (List.drop (m2.length - 7) (m2 ++ [(k : Int)])) = last8 (m2 ++ [(k : Int)]) := by
        unfold last8
        rw [hml, show m2.length + 1 - 8 = m2.length - 7 by omega, List.take_of_length_le (by rw [List.length_drop, hml]; exact Nat.le_refl _)]
      refine awp_pureO 111001 (ids := [111003, 111004, 111005]) (by simp (maxSteps := 4000000) only [↓reduceIte, Nat.reduceLT, Nat.reduceEqDiff, reduceCtorEq, Nat.reduceAdd, Nat.reduceMul, Int.reduceLE, Int.reduceLT, Int.reduceToNat, Nat.reduceLeDiff, Nat.reduceSub, Int.reduceEq, Nat.reduceBEq, evB]; rfl) rfl (by simp (maxSteps := 4000000) only [↓reduceIte, Nat.reduceLT, Nat.reduceEqDiff, reduceCtorEq, Nat.reduceAdd, Nat.reduceMul, Int.reduceLE, Int.reduceLT, Int.reduceToNat, Nat.reduceLeDiff, Nat.reduceSub, Int.reduceEq, Nat.reduceBEq, evB, ints_take, ints_drop, hl8, List.take_length]; rfl) (by simp (maxSteps := 4000000) only [↓reduceIte, Nat.reduceLT, Nat.reduceEqDiff, reduceCtorEq, Nat.reduceAdd, Nat.reduceMul, Int.reduceLE, Int.reduceLT, Int.reduceToNat, Nat.reduceLeDiff, Nat.reduceSub, Int.reduceEq, Nat.reduceBEq, evB, ints_len, hml]; omega) (by decide) ?_
      refine awp_pureO 1002 (ids := [111001, 111002]) (by simp (maxSteps := 4000000) only [↓reduceIte, Nat.reduceLT, Nat.reduceEqDiff, reduceCtorEq, Nat.reduceAdd, Nat.reduceMul, Int.reduceLE, Int.reduceLT, Int.reduceToNat, Nat.reduceLeDiff, Nat.reduceSub, Int.reduceEq, Nat.reduceBEq, evB]; rfl) rfl (by simp (maxSteps := 4000000) only [↓reduceIte, Nat.reduceLT, Nat.reduceEqDiff, reduceCtorEq, Nat.reduceAdd, Nat.reduceMul, Int.reduceLE, Int.reduceLT, Int.reduceToNat, Nat.reduceLeDiff, Nat.reduceSub, Int.reduceEq, Nat.reduceBEq, evB, ints_take, hKt, List.take_succ_cons, List.take_zero, List.take_nil]; rfl) (by simp (maxSteps := 4000000) only [↓reduceIte, Nat.reduceLT, Nat.reduceEqDiff, reduceCtorEq, Nat.reduceAdd, Nat.reduceMul, Int.reduceLE, Int.reduceLT, Int.reduceToNat, Nat.reduceLeDiff, Nat.reduceSub, Int.reduceEq, Nat.reduceBEq, evB, ints_len, List.length_cons, List.length_nil]) (by decide) ?_
      exact awp_ret (endsV [] (.inr rfl) (by simp (maxSteps := 4000000) only [↓reduceIte, Nat.reduceLT, Nat.reduceEqDiff, reduceCtorEq, Nat.reduceAdd, Nat.reduceMul, Int.reduceLE, Int.reduceLT, Int.reduceToNat, Nat.reduceLeDiff, Nat.reduceSub, Int.reduceEq, Nat.reduceBEq, evB, tyA, apD]; rfl) trivial evX)
structure ImgB (n B : Nat) (i : Img) : Prop where
  S : i.S.length = n
  K : i.K.length = n
  q : 0 ≤ i.q ∧ i.q ≤ B
  c : ∀ x ∈ i.S, 0 ≤ x.1 ∧ x.1 ≤ B ∧ x.2.length ≤ 8
  k : ∀ x ∈ i.K, 0 ≤ x ∧ x ≤ B
theorem ImgB.ok {n B : Nat} {i : Img} (h : ImgB n B i) (hB : B ≤ 1000000) : ImgOk n i :=
  ⟨h.S, h.K, ⟨h.q.1, by have := h.q.2; omega⟩, fun x hx => by have := h.c x hx; omega, fun x hx => by have := h.k x hx; omega⟩
theorem mem_set {α : Type} {l : List α} {i : Nat} {a x : α} (h : x ∈ l.set i a) : x = a ∨ x ∈ l := by
  rcases List.mem_or_eq_of_mem_set h with h | h
  · exact .inr h
  · exact .inl h
theorem getD_or {α : Type} (l : List α) (i : Nat) (d : α) : l.getD i d ∈ l ∨ l.getD i d = d := by
  rcases Nat.lt_or_ge i l.length with h | h
  · exact .inl (getD_mem h d)
  · exact .inr (by rw [List.getD_eq_getElem?_getD, List.getElem?_eq_none h]; rfl)
theorem ImgB.did {n B : Nat} {i : Img} (h : ImgB n B i) (lb : List Lab) (a : Int × Int) (s : Int) : ImgB n (B + 1) (didI lb i a s) := by
  have hq := h.q
  unfold didI
  split
  · refine ⟨h.S, by simp only [List.length_set]; exact h.K, ⟨by simp only; omega, by simp only; omega⟩, fun x hx => by have := h.c x hx; omega, fun x hx => ?_⟩
    rcases mem_set hx with rfl | hx
    · rcases getD_or i.K (otherN lb a) 0 with g | g
      · have := h.k _ g; omega
      · rw [g]; omega
    · have := h.k x hx; omega
  · refine ⟨by simp only [List.length_set]; exact h.S, h.K, ⟨by simp only; omega, by simp only; omega⟩, fun x hx => ?_, fun x hx => by have := h.k x hx; omega⟩
    rcases mem_set hx with rfl | hx
    · have h8 := last8_len ((i.S.getD (otherN lb a) (0, [])).2 ++ [a.2])
      simp only
      rcases getD_or i.S (otherN lb a) (0, []) with g | g
      · have := h.c _ g; omega
      · rw [g] at h8 ⊢; simp only at h8 ⊢; omega
    · have := h.c x hx; omega
theorem ImgB.apply {n B : Nat} {i y : Img} (h : ImgB n B i) {x : Pr} {lb : List Lab} {a : Int} (ha : applyI x lb i a = some y) : ImgB n (B + 1) y := by
  unfold applyI at ha
  split at ha
  · split at ha
    · cases ha; exact h.did lb _ _
    · cases ha
  · cases ha
def replayI (x : Pr) (lb : List Lab) : Img → List (Int × Int × Int) → Option Img
  | i, [] => some i
  | i, r :: l => match applyI x lb i r.2.1 with
    | some y => if r.1 = i.q ∧ r.2.2 = y.s then replayI x lb y l else none
    | none => none
set_option maxRecDepth 20000 in
set_option maxHeartbeats 32000000 in
theorem c_Replay (f g : Bool) (x : Pr) (hx : PWf x) (lb : List Lab) (hA : GoodA x.A lb 3) (i : Img) (hi : ImgB 3 0 i) (l : List (Int × Int × Int)) (hl : l.length ≤ 1000) :
    Contract Try.prog 13 [prD x, .sl f (tri lb), imD i, .sl g (tri l)] (apD i (replayI x lb i l)) [] := by
  refine contract_of_awpV ttok (rs := [.cell 8 43, .tmp 9]) Try.func13 rfl Try.ntmps13 (by simp) rfl fun E => ?_
  have hz : ∀ y : Img, ImgB 3 0 y → ImgB 3 0 y := fun _ h => h
  (repeat (first | refine awp_seq ?_ | refine awp_block ?_ | ((first | refine awp_skip ?_ | refine awp_exit ?_ | refine awp_reg ttok ?_ | (refine awp_draw ttok ?dr_calm ?_; (case dr_calm => decide +kernel)) | refine awp_condM ?_); simp (maxSteps := 4000000) only [↓reduceIte, Nat.reduceLT, Nat.reduceEqDiff, reduceCtorEq, Nat.reduceAdd, Nat.reduceMul, Int.reduceLE, Int.reduceLT, Int.reduceToNat, Nat.reduceLeDiff, Nat.reduceSub, Int.reduceEq, Nat.reduceBEq, evB, tyA, tri_len]; (repeat (with_reducible refine And.intro ?_ ?_; exact sdX)); (with_reducible first | refine awp_id ?_ | refine id_call ?_ | refine id_and ?_ | refine id_ex ?_ | refine id_all ?_ | refine id_nat ?_ | refine id_le ?_))))
  refine awp_loop (X := Nat × Img) (fun z => mkS 51 [(1, .sl f (tri lb)), (4, .ptr 1000 0 0), (6, .ptr 1001 0 0), (8, .ptr 1002 0 0), (10, .ptr 2001 0 0), (16, .sl g (tri l)), (17, i64 l.length), (18, i64 z.1)]
      [(1000, { sz := 6, rows := [prC x], flat := false }), (1001, { sz := 4, rows := [imC i], flat := false }), (1002, { sz := 4, rows := [[i64 0, i64 0, .sl true [], .sl true []]], flat := false }), (2001, { sz := 4, rows := [imC z.2], flat := false })])
    (fun z => z.1 ≤ l.length ∧ ImgB 3 z.1 z.2 ∧ replayI x lb z.2 (l.drop z.1) = replayI x lb i l) (fun z => l.length - z.1) (0, i) ⟨Nat.zero_le _, hi, rfl⟩ (mkS_le rfl ?_ ?_) ?_
  · simp (maxSteps := 4000000) only [↓reduceIte, Nat.reduceLT, Nat.reduceEqDiff, reduceCtorEq, Nat.reduceAdd, Nat.reduceMul, Int.reduceLE, Int.reduceLT, Int.reduceToNat, Nat.reduceLeDiff, Nat.reduceSub, Int.reduceEq, Nat.reduceBEq, evB, tri_len]
    try rfl
  · simp (maxSteps := 4000000) only [↓reduceIte, Nat.reduceLT, Nat.reduceEqDiff, reduceCtorEq, Nat.reduceAdd, Nat.reduceMul, Int.reduceLE, Int.reduceLT, Int.reduceToNat, Nat.reduceLeDiff, Nat.reduceSub, Int.reduceEq, Nat.reduceBEq, evB]
    try rfl
  · rintro ⟨j, o⟩ ⟨hj, ho, hr⟩
    simp only at hj ho hr
    by_cases hlt : j < l.length
    · have d1 : decide ((j : Int) < (l.length : Int)) = true := by simpa using hlt
      have hwi : IntKind.i64.wrap ((j : Int) + 1) = ((j + 1 : Nat) : Int) := i64_in (by omega) (by omega)
      have gi := tri_get hlt
      have hd : l.drop j = l.getD j (0, 0, 0) :: l.drop (j + 1) := drop_getD hlt _
      rw [hd, replayI] at hr
      generalize l.getD j (0, 0, 0) = r at *
      have hAp := c_Apply3 f x hx lb hA o (ho.ok (by omega)) r.2.1
      have hB := fun y => ho.apply (x := x) (lb := lb) (a := r.2.1) (y := y)
      generalize applyI x lb o r.2.1 = ap at *
      (repeat (first | refine awp_seq ?_ | refine awp_block ?_ | ((first | refine awp_skip ?_ | refine awp_exit ?_ | refine awp_reg ttok ?_ | (refine awp_draw ttok ?dr_calm ?_; (case dr_calm => decide +kernel)) | refine awp_condM ?_); simp (maxSteps := 4000000) only [↓reduceIte, Nat.reduceLT, Nat.reduceEqDiff, reduceCtorEq, Nat.reduceAdd, Nat.reduceMul, Int.reduceLE, Int.reduceLT, Int.reduceToNat, Nat.reduceLeDiff, Nat.reduceSub, Int.reduceEq, Nat.reduceBEq, evB, tyA, d1, gi, tri_len]; (repeat (with_reducible refine And.intro ?_ ?_; exact sdX)); (with_reducible first | refine awp_id ?_ | refine id_call ?_ | refine id_and ?_ | refine id_ex ?_ | refine id_all ?_ | refine id_nat ?_ | refine id_le ?_))))
      cases ap with
      | none =>
        simp only at hr
        refine callVC_mk fnok9 hAp rfl ?_
        simp (maxSteps := 4000000) only [↓reduceIte, Nat.reduceLT, Nat.reduceEqDiff, reduceCtorEq, Nat.reduceAdd, Nat.reduceMul, Int.reduceLE, Int.reduceLT, Int.reduceToNat, Nat.reduceLeDiff, Nat.reduceSub, Int.reduceEq, Nat.reduceBEq, evB, tyA, apD]
        (repeat (with_reducible refine And.intro ?_ ?_; exact sdX))
        (repeat (first | refine awp_seq ?_ | refine awp_block ?_ | ((first | refine awp_skip ?_ | refine awp_exit ?_ | refine awp_reg ttok ?_ | (refine awp_draw ttok ?dr_calm ?_; (case dr_calm => decide +kernel)) | refine awp_condM ?_); simp (maxSteps := 4000000) only [↓reduceIte, Nat.reduceLT, Nat.reduceEqDiff, reduceCtorEq, Nat.reduceAdd, Nat.reduceMul, Int.reduceLE, Int.reduceLT, Int.reduceToNat, Nat.reduceLeDiff, Nat.reduceSub, Int.reduceEq, Nat.reduceBEq, evB, tyA]; (repeat (with_reducible refine And.intro ?_ ?_; exact sdX)); (with_reducible first | refine awp_id ?_ | refine id_call ?_ | refine id_and ?_ | refine id_ex ?_ | refine id_all ?_ | refine id_nat ?_ | refine id_le ?_))))
        rw [← hr]
        exact awp_ret (endsV [] (.inr rfl) (by simp (maxSteps := 4000000) only [↓reduceIte, Nat.reduceLT, Nat.reduceEqDiff, reduceCtorEq, Nat.reduceAdd, Nat.reduceMul, Int.reduceLE, Int.reduceLT, Int.reduceToNat, Nat.reduceLeDiff, Nat.reduceSub, Int.reduceEq, Nat.reduceBEq, evB, tyA, apD]; rfl) trivial evX)
      | some y =>
        simp only at hr
        have hBy := hB y rfl
        refine callVC_mk fnok9 hAp rfl ?_
        simp (maxSteps := 4000000) only [↓reduceIte, Nat.reduceLT, Nat.reduceEqDiff, reduceCtorEq, Nat.reduceAdd, Nat.reduceMul, Int.reduceLE, Int.reduceLT, Int.reduceToNat, Nat.reduceLeDiff, Nat.reduceSub, Int.reduceEq, Nat.reduceBEq, evB, tyA, apD]
        (repeat (with_reducible refine And.intro ?_ ?_; exact sdX))
        by_cases h1 : r.1 = o.q
        · have k1 : (r.1 != o.q) = false := by simpa using h1
          by_cases h2 : r.2.2 = y.s
          · have k2 : (r.2.2 != y.s) = false := by simpa using h2
            rw [if_pos ⟨h1, h2⟩] at hr
            (repeat (first | refine awp_seq ?_ | refine awp_block ?_ | ((first | refine awp_skip ?_ | refine awp_exit ?_ | refine awp_reg ttok ?_ | (refine awp_draw ttok ?dr_calm ?_; (case dr_calm => decide +kernel)) | refine awp_condM ?_); simp (maxSteps := 4000000) only [↓reduceIte, Nat.reduceLT, Nat.reduceEqDiff, reduceCtorEq, Nat.reduceAdd, Nat.reduceMul, Int.reduceLE, Int.reduceLT, Int.reduceToNat, Nat.reduceLeDiff, Nat.reduceSub, Int.reduceEq, Nat.reduceBEq, evB, tyA, k1, k2, hwi]; (repeat (with_reducible refine And.intro ?_ ?_; exact sdX)); (with_reducible first | refine awp_id ?_ | refine id_call ?_ | refine id_and ?_ | refine id_ex ?_ | refine id_all ?_ | refine id_nat ?_ | refine id_le ?_))))
            refine ⟨(j + 1, y), ⟨by simp only; omega, hBy, hr⟩, by simp only; omega, mkS_le rfl ?_ ?_⟩
            · exact evX
            · exact evX
          · have k2 : (r.2.2 != y.s) = true := by simpa using h2
            rw [if_neg (by rintro ⟨_, q⟩; exact h2 q)] at hr
            (repeat (first | refine awp_seq ?_ | refine awp_block ?_ | ((first | refine awp_skip ?_ | refine awp_exit ?_ | refine awp_reg ttok ?_ | (refine awp_draw ttok ?dr_calm ?_; (case dr_calm => decide +kernel)) | refine awp_condM ?_); simp (maxSteps := 4000000) only [↓reduceIte, Nat.reduceLT, Nat.reduceEqDiff, reduceCtorEq, Nat.reduceAdd, Nat.reduceMul, Int.reduceLE, Int.reduceLT, Int.reduceToNat, Nat.reduceLeDiff, Nat.reduceSub, Int.reduceEq, Nat.reduceBEq, evB, tyA, k1, k2]; (repeat (with_reducible refine And.intro ?_ ?_; exact sdX)); (with_reducible first | refine awp_id ?_ | refine id_call ?_ | refine id_and ?_ | refine id_ex ?_ | refine id_all ?_ | refine id_nat ?_ | refine id_le ?_))))
            rw [← hr]
            exact awp_ret (endsV [] (.inr rfl) (by simp (maxSteps := 4000000) only [↓reduceIte, Nat.reduceLT, Nat.reduceEqDiff, reduceCtorEq, Nat.reduceAdd, Nat.reduceMul, Int.reduceLE, Int.reduceLT, Int.reduceToNat, Nat.reduceLeDiff, Nat.reduceSub, Int.reduceEq, Nat.reduceBEq, evB, tyA, apD]; rfl) trivial evX)
        · have k1 : (r.1 != o.q) = true := by simpa using h1
          rw [if_neg (by rintro ⟨q, _⟩; exact h1 q)] at hr
          (repeat (first | refine awp_seq ?_ | refine awp_block ?_ | ((first | refine awp_skip ?_ | refine awp_exit ?_ | refine awp_reg ttok ?_ | (refine awp_draw ttok ?dr_calm ?_; (case dr_calm => decide +kernel)) | refine awp_condM ?_); simp (maxSteps := 4000000) only [↓reduceIte, Nat.reduceLT, Nat.reduceEqDiff, reduceCtorEq, Nat.reduceAdd, Nat.reduceMul, Int.reduceLE, Int.reduceLT, Int.reduceToNat, Nat.reduceLeDiff, Nat.reduceSub, Int.reduceEq, Nat.reduceBEq, evB, tyA, k1]; (repeat (with_reducible refine And.intro ?_ ?_; exact sdX)); (with_reducible first | refine awp_id ?_ | refine id_call ?_ | refine id_and ?_ | refine id_ex ?_ | refine id_all ?_ | refine id_nat ?_ | refine id_le ?_))))
          rw [← hr]
          exact awp_ret (endsV [] (.inr rfl) (by simp (maxSteps := 4000000) only [↓reduceIte, Nat.reduceLT, Nat.reduceEqDiff, reduceCtorEq, Nat.reduceAdd, Nat.reduceMul, Int.reduceLE, Int.reduceLT, Int.reduceToNat, Nat.reduceLeDiff, Nat.reduceSub, Int.reduceEq, Nat.reduceBEq, evB, tyA, apD]; rfl) trivial evX)
    · have d1 : decide ((j : Int) < (l.length : Int)) = false := by simpa using hlt
      rw [List.drop_of_length_le (by omega), replayI] at hr
      rw [← hr]
      (repeat (first | refine awp_seq ?_ | refine awp_block ?_ | ((first | refine awp_skip ?_ | refine awp_exit ?_ | refine awp_reg ttok ?_ | (refine awp_draw ttok ?dr_calm ?_; (case dr_calm => decide +kernel)) | refine awp_condM ?_); simp (maxSteps := 4000000) only [↓reduceIte, Nat.reduceLT, Nat.reduceEqDiff, reduceCtorEq, Nat.reduceAdd, Nat.reduceMul, Int.reduceLE, Int.reduceLT, Int.reduceToNat, Nat.reduceLeDiff, Nat.reduceSub, Int.reduceEq, Nat.reduceBEq, evB, tyA, d1]; (repeat (with_reducible refine And.intro ?_ ?_; exact sdX)); (with_reducible first | refine awp_id ?_ | refine id_call ?_ | refine id_and ?_ | refine id_ex ?_ | refine id_all ?_ | refine id_nat ?_ | refine id_le ?_))))
      exact awp_ret (endsV [] (.inr rfl) (by simp (maxSteps := 4000000) only [↓reduceIte, Nat.reduceLT, Nat.reduceEqDiff, reduceCtorEq, Nat.reduceAdd, Nat.reduceMul, Int.reduceLE, Int.reduceLT, Int.reduceToNat, Nat.reduceLeDiff, Nat.reduceSub, Int.reduceEq, Nat.reduceBEq, evB, tyA, apD]; rfl) trivial evX)
def ext (L : Nat) (w : List Int) : List (List Int) := (List.range L).map fun (a : Nat) => w ++ [(a : Int)]
def labP (z : Int) : List Lab := fix5.take (labD z)
theorem labP_len (z : Int) : (labP z).length = labD z := by
  have := labD_le z
  simp [labP, fix5]; omega
theorem c_RAny (f : Bool) (l : List (Int × Int × Int)) (fin z0 z1 : Int) (hl : l.length ≤ 9223372036854775807) :
    Contract Try.prog 5 [.sl f (tri l), i64 fin, .agg [i64 z0, i64 z1]] (.tup [dfaD (labP z0).length (startD z1) (finD fin (numD z1)) (nextD (labP z0).length (numD z1) l), .sl false (tri (labP z0))]) [] := by
  refine contract_of_awpV ttok (rs := [.cell 6 28, .tmp 7]) Try.func5 rfl Try.ntmps5 (by simp) rfl fun E => ?_
  have hc := c_Dfa f l fin z0 z1 hl
  have hL := labD_le z0
  have hLa := c_Labels (labD z0) (by omega)
  rw [show min (labD z0) 5 = labD z0 by omega] at hLa
  have e : fix5.take (labD z0) = labP z0 := rfl
  rw [e] at hLa
  rw [labP_len]
  generalize labP z0 = lb at *
  generalize labD z0 = L at *
  (repeat (first | refine awp_seq ?_ | refine awp_block ?_ | ((first | refine awp_skip ?_ | refine awp_exit ?_ | refine awp_reg ttok ?_ | (refine awp_draw ttok ?dr_calm ?_; (case dr_calm => decide +kernel)) | refine awp_condM ?_); simp (maxSteps := 4000000) only [↓reduceIte, Nat.reduceLT, Nat.reduceEqDiff, reduceCtorEq, Nat.reduceAdd, Nat.reduceMul, Int.reduceLE, Int.reduceLT, Int.reduceToNat, Nat.reduceLeDiff, Nat.reduceSub, Int.reduceEq, Nat.reduceBEq, evB, tyA]; (repeat (with_reducible refine And.intro ?_ ?_; exact sdX)); (with_reducible first | refine awp_id ?_ | refine id_call ?_ | refine id_and ?_ | refine id_ex ?_ | refine id_all ?_ | refine id_nat ?_ | refine id_le ?_))))
  refine callVC_mk fnok14 hc rfl ?_
  simp (maxSteps := 4000000) only [↓reduceIte, Nat.reduceLT, Nat.reduceEqDiff, reduceCtorEq, Nat.reduceAdd, Nat.reduceMul, Int.reduceLE, Int.reduceLT, Int.reduceToNat, Nat.reduceLeDiff, Nat.reduceSub, Int.reduceEq, Nat.reduceBEq, evB, tyA, dfaD]
  (repeat (with_reducible refine And.intro ?_ ?_; exact sdX))
  (repeat (first | refine awp_seq ?_ | refine awp_block ?_ | ((first | refine awp_skip ?_ | refine awp_exit ?_ | refine awp_reg ttok ?_ | (refine awp_draw ttok ?dr_calm ?_; (case dr_calm => decide +kernel)) | refine awp_condM ?_); simp (maxSteps := 4000000) only [↓reduceIte, Nat.reduceLT, Nat.reduceEqDiff, reduceCtorEq, Nat.reduceAdd, Nat.reduceMul, Int.reduceLE, Int.reduceLT, Int.reduceToNat, Nat.reduceLeDiff, Nat.reduceSub, Int.reduceEq, Nat.reduceBEq, evB, tyA]; (repeat (with_reducible refine And.intro ?_ ?_; exact sdX)); (with_reducible first | refine awp_id ?_ | refine id_call ?_ | refine id_and ?_ | refine id_ex ?_ | refine id_all ?_ | refine id_nat ?_ | refine id_le ?_))))
  refine awp_drawG ttok ((0, none) :: (1, none) :: (2, none) :: (3, some [0]) :: (4, some []) :: (5, none) :: []) (0 :: 1 :: 2 :: 3 :: 4 :: 5 :: []) (0 :: 1 :: 2 :: 3 :: 4 :: 5 :: []) (by decide +kernel) fun O hO => ?_; simp only [OpsAre, Nat.reduceAdd, and_true, List.toList_toArray, List.append_eq, List.cons_append, List.nil_append] at hO; simp (maxSteps := 4000000) only [↓reduceIte, Nat.reduceLT, Nat.reduceEqDiff, reduceCtorEq, Nat.reduceAdd, Nat.reduceMul, Int.reduceLE, Int.reduceLT, Int.reduceToNat, Nat.reduceLeDiff, Nat.reduceSub, Int.reduceEq, Nat.reduceBEq, evB, tyA, hO, ]; (repeat (with_reducible refine And.intro ?_ ?_; exact sdX))
  refine callVC_mk fnok15 hLa rfl ?_
  simp (maxSteps := 4000000) only [↓reduceIte, Nat.reduceLT, Nat.reduceEqDiff, reduceCtorEq, Nat.reduceAdd, Nat.reduceMul, Int.reduceLE, Int.reduceLT, Int.reduceToNat, Nat.reduceLeDiff, Nat.reduceSub, Int.reduceEq, Nat.reduceBEq, evB, tyA, hO]
  (repeat (with_reducible refine And.intro ?_ ?_; exact sdX))
  (repeat (first | refine awp_seq ?_ | refine awp_block ?_ | ((first | refine awp_skip ?_ | refine awp_exit ?_ | refine awp_reg ttok ?_ | (refine awp_draw ttok ?dr_calm ?_; (case dr_calm => decide +kernel)) | refine awp_condM ?_); simp (maxSteps := 4000000) only [↓reduceIte, Nat.reduceLT, Nat.reduceEqDiff, reduceCtorEq, Nat.reduceAdd, Nat.reduceMul, Int.reduceLE, Int.reduceLT, Int.reduceToNat, Nat.reduceLeDiff, Nat.reduceSub, Int.reduceEq, Nat.reduceBEq, evB, tyA]; (repeat (with_reducible refine And.intro ?_ ?_; exact sdX)); (with_reducible first | refine awp_id ?_ | refine id_call ?_ | refine id_and ?_ | refine id_ex ?_ | refine id_all ?_ | refine id_nat ?_ | refine id_le ?_))))
  exact awp_ret (endsV [] (.inr rfl) (by simp (maxSteps := 4000000) only [↓reduceIte, Nat.reduceLT, Nat.reduceEqDiff, reduceCtorEq, Nat.reduceAdd, Nat.reduceMul, Int.reduceLE, Int.reduceLT, Int.reduceToNat, Nat.reduceLeDiff, Nat.reduceSub, Int.reduceEq, Nat.reduceBEq, evB, tyA]; rfl) trivial evX)
def GoodL (lb : List Lab) (n : Nat) : Prop := ∀ k, k < lb.length → ∃ u v : Nat, u < n ∧ v < n ∧ u ≠ v ∧ (lb.getD k (0, 0, 0)).1 = (u : Int) ∧ (lb.getD k (0, 0, 0)).2.1 = (v : Int)
theorem good5 (n : Nat) : GoodL (fix5.take n) 3 := fun k hk => by
  have hk5 : k < 5 ∧ k < n := by
    have : (fix5.take n).length = min n 5 := by simp [fix5]
    omega
  have e : (fix5.take n).getD k (0, 0, 0) = fix5.getD k (0, 0, 0) := by
    simp [List.getD, List.getElem?_take, hk5.2]
  rw [e]
  match k, hk5.1 with
  | 0, _ => exact ⟨0, 1, by decide, by decide, by decide, rfl, rfl⟩
  | 1, _ => exact ⟨0, 1, by decide, by decide, by decide, rfl, rfl⟩
  | 2, _ => exact ⟨0, 2, by decide, by decide, by decide, rfl, rfl⟩
  | 3, _ => exact ⟨1, 0, by decide, by decide, by decide, rfl, rfl⟩
  | 4, _ => exact ⟨2, 1, by decide, by decide, by decide, rfl, rfl⟩
theorem goodL_labP (z : Int) : GoodL (labP z) 3 := good5 _
theorem goodA_acts {lb : List Lab} (hg : GoodL lb 3) (part : Int) : ∀ n, n ≤ lb.length → GoodA (acts lb part n) lb 3
  | 0, _ => fun j hj => by simp [acts] at hj
  | n + 1, hn => fun j hj => by
    have ih := goodA_acts hg part n (by omega)
    simp only [acts] at hj ⊢
    by_cases h : j < (acts lb part n).length
    · obtain ⟨d, k, o, h1, h2⟩ := ih j h
      refine ⟨d, k, o, ?_, h2⟩
      rw [← h1]
      simp [List.getD, List.getElem?_append_left h]
    · obtain ⟨u, v, hu, hv, huv, x1, x2⟩ := hg n (by omega)
      have e : (acts lb part n ++ actOf part (lb.getD n (0, 0, 0)) n).getD j (0, 0) = (actOf part (lb.getD n (0, 0, 0)) n).getD (j - (acts lb part n).length) (0, 0) := by
        simp only [List.getD, List.getElem?_append_right (Nat.le_of_not_lt h)]
      rw [e]
      rw [List.length_append] at hj
      unfold actOf at hj ⊢
      by_cases h1 : part = (lb.getD n (0, 0, 0)).1
      · rw [if_pos h1] at hj ⊢
        have : j - (acts lb part n).length = 0 := by simp at hj; omega
        rw [this]
        exact ⟨1, n, v, rfl, by omega, hv, by rw [if_pos rfl]; exact x2⟩
      · rw [if_neg h1] at hj ⊢
        by_cases h2 : part = (lb.getD n (0, 0, 0)).2.1
        · rw [if_pos h2] at hj ⊢
          have : j - (acts lb part n).length = 0 := by simp at hj; omega
          rw [this]
          exact ⟨2, n, u, rfl, by omega, hu, by rw [if_neg (by decide)]; exact x1⟩
        · rw [if_neg h2] at hj
          simp at hj; omega
theorem replay_snoc (x : Pr) (lb : List Lab) (r : Int × Int × Int) : ∀ (l : List (Int × Int × Int)) (f i y : Img), replayI x lb f l = some i → applyI x lb i r.2.1 = some y → r.1 = i.q → r.2.2 = y.s → replayI x lb f (l ++ [r]) = some y
  | [], f, i, y, h, ha, h1, h2 => by
    simp only [replayI, Option.some.injEq] at h
    subst h
    simp only [List.nil_append, replayI, ha]
    rw [if_pos ⟨h1, h2⟩]
  | s :: l, f, i, y, h, ha, h1, h2 => by
    simp only [List.cons_append, replayI] at h ⊢
    cases hs : applyI x lb f s.2.1 with
    | none => rw [hs] at h; cases h
    | some z =>
      rw [hs] at h
      simp only at h ⊢
      split at h
      · rename_i q
        rw [if_pos q]
        exact replay_snoc x lb r l z i y h ha h1 h2
      · cases h
structure Noted (x : Pr) (lb : List Lab) (f : Img) (l : List (Int × Int × Int)) (i : Img) : Prop where
  re : replayI x lb f l = some i
  q : i.q = l.length
  b : ImgB 3 l.length i
  st : ∀ r ∈ l, 0 ≤ r.1 ∧ r.1 ≤ l.length ∧ 0 ≤ r.2.2 ∧ r.2.2 ≤ 1024
theorem toD_lt {x : Pr} (h : PWf x) (s k : Int) : toD x.N s k < 1024 := by
  have hn := h.n
  have := toD_ok h.ok s k
  omega
theorem applied {x : Pr} (hx : PWf x) {lb : List Lab} {i y : Img} {a : Int} (h : applyI x lb i a = some y) : y.q = i.q + 1 ∧ 0 ≤ y.s ∧ y.s < 1024 := by
  unfold applyI at h
  split at h
  · split at h
    · rename_i h1 h2
      have hlt := toD_lt hx i.s (findA x.A (x.A.getD a.toNat (0, 0)))
      cases h
      unfold didI
      split
      · exact ⟨rfl, h2, hlt⟩
      · exact ⟨rfl, h2, hlt⟩
    · cases h
  · cases h
theorem Noted.snoc {x : Pr} (hx : PWf x) {lb : List Lab} {f i y : Img} {l : List (Int × Int × Int)} (h : Noted x lb f l i) {a : Int} (ha : applyI x lb i a = some y) : Noted x lb f (l ++ [(y.q - 1, a, y.s)]) y := by
  obtain ⟨h1, h2, h3⟩ := applied hx ha
  have hq := h.q
  refine ⟨replay_snoc x lb _ l f i y h.re ha (by simp only; omega) rfl, by rw [List.length_append, h1, hq]; simp, ?_, fun r hr => ?_⟩
  · have := h.b.apply ha
    rw [List.length_append]
    exact this
  · rw [List.length_append]
    rcases List.mem_append.1 hr with g | g
    · have := h.st r g
      simp only [List.length_cons, List.length_nil]
      omega
    · rw [List.mem_singleton] at g
      subst g
      simp only [List.length_cons, List.length_nil]
      omega
theorem Noted.nil (x : Pr) (lb : List Lab) (f : Img) (h : ImgB 3 0 f) : Noted x lb f [] f :=
  ⟨rfl, by have := h.q; simp; omega, h, fun r hr => by cases hr⟩
theorem sameI_refl (i : Img) : sameI i.q i.s i.S i.K i.q i.s i.S i.K = true := by simp [sameI]
end Go.Proofs.Ytkpplakjdcpoaaa
