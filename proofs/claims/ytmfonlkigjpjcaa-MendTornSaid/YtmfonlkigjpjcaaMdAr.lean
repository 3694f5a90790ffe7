/-
  The contracts of mend.area.
-/
import Derived.Test.YtmfonlkigjpjcaaMdAll
import Derived.Test.YtmfonlkigjpjcaaMdDo
import Derived.Test.YtmfonlkigjpjcaaJnF
import Derived.Test.YtmfonlkigjpjcaaRecB
import Derived.Test.YtmfonlkigjpjcaaSn8
import Derived.Test.YtmfonlkigjpjcaaSnP
namespace Go.Proofs.Ytmfonlkigjpjcaa
open Go.Ab
set_option linter.unusedSimpArgs false
set_option linter.unusedVariables false

/-- Notes, as rows. -/
def rrs (l : List (Int × Int × Int)) : List (List D) := l.map fun x => [i64 x.1, i64 x.2.1, i64 x.2.2]
theorem rrs_len (l : List (Int × Int × Int)) : (rrs l).length = l.length := by simp [rrs]
theorem rrs_row (l : List (Int × Int × Int)) : (∀ row ∈ rrs l, row.length = 3) = True := by
  simp only [rrs, List.mem_map, eq_iff_iff, iff_true]
  rintro row ⟨x, _, rfl⟩; rfl
theorem rrs_get {l : List (Int × Int × Int)} {i : Nat} (h : i < l.length) : (rrs l).getD i [] = [i64 (l.getD i (0, 0, 0)).1, i64 (l.getD i (0, 0, 0)).2.1, i64 (l.getD i (0, 0, 0)).2.2] := by
  simp [rrs, List.getD, List.getElem?_eq_getElem h]
theorem rrs_app (l m : List (Int × Int × Int)) : rrs l ++ rrs m = rrs (l ++ m) := by simp [rrs]
theorem rrs_take (l : List (Int × Int × Int)) (k : Nat) : (rrs l).take k = rrs (l.take k) := by simp [rrs]
theorem rrs_one (a b c : Int) : [[i64 a, i64 b, i64 c]] = rrs [(a, b, c)] := rfl

/-- Nothing found. -/
def fnd0 : List D := [i64 0, i64 0, i64 0, i64 0, .sl true [], .sl true [], .sl true []]

def dskO (m : List UInt8) (n : Int) : List AObj := [{ sz := 2, rows := [[.own 1 0 2048, i64 n]], flat := false }, { sz := 1, rows := bys m }]

set_option maxHeartbeats 8000000 in
theorem c_areaNo (m : List UInt8) (n : Int) (k : Nat) (hl : m.length = 2048) (hk : k ≤ 1) (hH : genOk ((m.drop (32 * (32 * k))).take 32) = false) :
    ContractM Try.prog 22 [{ sz := 2, rows := [[.own 1 0 2048, i64 n]], flat := false }, { sz := 1, rows := bys m }] [.ptr 0 0 0, i64 k] (.tup [.agg fnd0, .v (.pointer none), bo false])
      [some { sz := 2, rows := [[.own 1 0 2048, i64 n]], flat := false }, some { sz := 1, rows := bys m }] := by
  refine contractM_of_awpV ttok (rs := [.cell 4 38, .tmp 5, .tmp 6]) Try.func22 rfl Try.ntmps22 (by simp) rfl fun E => ?_
  have hw : IntKind.i64.wrap ((k : Int) * 32) = ((32 * k : Nat) : Int) := by rw [i64_in (by omega) (by omega)]; omega
  have hR := c_dRead m n (32 * k) hl (by omega)
  have hxl : ((m.drop (32 * (32 * k))).take 32).length = 32 := by simp; omega
  have hG := c_Gen false ((m.drop (32 * (32 * k))).take 32) (by omega)
  rw [hH] at hG
  have hmt : List.take 2048 m = m := List.take_of_length_le (by omega)
  generalize (m.drop (32 * (32 * k))).take 32 = H at *
  have hHt : List.take 32 H = H := List.take_of_length_le (by omega)
  have kf : (!false) = true := rfl
  (repeat (first | refine awp_seq ?_ | refine awp_block ?_ | ((first | refine awp_skip ?_ | refine awp_exit ?_ | refine awp_reg ttok ?_ | (refine awp_draw ttok ?dr_calm ?_; (case dr_calm => decide +kernel)) | refine awp_condM ?_); simp (maxSteps := 4000000) only [↓reduceIte, Nat.reduceLT, Nat.reduceEqDiff, reduceCtorEq, Nat.reduceAdd, Nat.reduceMul, Int.reduceLE, Int.reduceLT, Int.reduceToNat, Nat.reduceLeDiff, Nat.reduceSub, Int.reduceEq, Nat.reduceBEq, List.replicate, List.set, if_false, if_true, ne_eq, false_implies, implies_true, evA, tyA, hw, hmt, hl]; (repeat (with_reducible refine And.intro ?_ ?_; focus ((repeat' with_reducible apply And.intro) <;> (first | omega | with_reducible trivial | with_reducible assumption)))); (with_reducible first | refine awp_id ?_ | refine id_call ?_ | refine id_and ?_ | refine id_ex ?_ | refine id_all ?_ | refine id_le ?_))))
  refine callVC_own fnok33 hR rfl rfl (by simp only [List.all_cons, noI_bys, List.all_nil, Bool.and_self]) ?_
  simp (maxSteps := 4000000) only [↓reduceIte, Nat.reduceLT, Nat.reduceEqDiff, reduceCtorEq, Nat.reduceAdd, Nat.reduceMul, Int.reduceLE, Int.reduceLT, Int.reduceToNat, Nat.reduceLeDiff, Nat.reduceSub, Int.reduceEq, Nat.reduceBEq, List.replicate, List.set, if_false, if_true, ne_eq, false_implies, implies_true, evA, tyA, hHt, hxl]
  (repeat (with_reducible refine And.intro ?_ ?_; focus ((repeat' with_reducible apply And.intro) <;> (first | omega | with_reducible trivial | with_reducible assumption))))
  refine callVC_scal fnok32 hG rfl ?_
  simp (maxSteps := 4000000) only [↓reduceIte, Nat.reduceLT, Nat.reduceEqDiff, reduceCtorEq, Nat.reduceAdd, Nat.reduceMul, Int.reduceLE, Int.reduceLT, Int.reduceToNat, Nat.reduceLeDiff, Nat.reduceSub, Int.reduceEq, Nat.reduceBEq, List.replicate, List.set, if_false, if_true, ne_eq, false_implies, implies_true, evA, tyA, kf]
  (repeat (with_reducible refine And.intro ?_ ?_; focus ((repeat' with_reducible apply And.intro) <;> (first | omega | with_reducible trivial | with_reducible assumption))))
  (repeat (first | refine awp_seq ?_ | refine awp_block ?_ | ((first | refine awp_skip ?_ | refine awp_exit ?_ | refine awp_reg ttok ?_ | (refine awp_draw ttok ?dr_calm ?_; (case dr_calm => decide +kernel)) | refine awp_condM ?_); simp (maxSteps := 4000000) only [↓reduceIte, Nat.reduceLT, Nat.reduceEqDiff, reduceCtorEq, Nat.reduceAdd, Nat.reduceMul, Int.reduceLE, Int.reduceLT, Int.reduceToNat, Nat.reduceLeDiff, Nat.reduceSub, Int.reduceEq, Nat.reduceBEq, List.replicate, List.set, if_false, if_true, ne_eq, false_implies, implies_true, evA, tyA, kf]; (repeat (with_reducible refine And.intro ?_ ?_; focus ((repeat' with_reducible apply And.intro) <;> (first | omega | with_reducible trivial | with_reducible assumption)))); (with_reducible first | refine awp_id ?_ | refine id_call ?_ | refine id_and ?_ | refine id_ex ?_ | refine id_all ?_ | refine id_le ?_))))
  exact awp_ret (endsMV [0, 1] (.inr rfl) (by simp (maxSteps := 4000000) only [↓reduceIte, Nat.reduceLT, Nat.reduceEqDiff, reduceCtorEq, Nat.reduceAdd, Nat.reduceMul, Int.reduceLE, Int.reduceLT, Int.reduceToNat, Nat.reduceLeDiff, Nat.reduceSub, Int.reduceEq, Nat.reduceBEq, List.replicate, List.set, if_false, if_true, ne_eq, false_implies, implies_true, evA, tyA, fnd0]; rfl) (by simp (maxSteps := 4000000) only [↓reduceIte, Nat.reduceLT, Nat.reduceEqDiff, reduceCtorEq, Nat.reduceAdd, Nat.reduceMul, Int.reduceLE, Int.reduceLT, Int.reduceToNat, Nat.reduceLeDiff, Nat.reduceSub, Int.reduceEq, Nat.reduceBEq, List.replicate, List.set, if_false, if_true, ne_eq, false_implies, implies_true, evA]))

/-- What is written behind an image. -/
def nbs (L : List (Int × Int × Int × Int)) : List (List UInt8) := L.map fun x => putN [x.1, x.2.1, x.2.2.1, x.2.2.2] 4
theorem nbs_len (L : List (Int × Int × Int × Int)) : (nbs L).length = L.length := by simp [nbs]
def nOk (x : Int × Int × Int × Int) : Prop := okN x.1 = true ∧ okN x.2.1 = true ∧ okN x.2.2.1 = true ∧ okN x.2.2.2 = true
theorem okN_bd {n : Int} (h : okN n = true) : 0 ≤ n ∧ n ≤ 2147483647 := by
  simp only [okN, Bool.and_eq_true, decide_eq_true_eq] at h
  omega
theorem nb_len {x : Int × Int × Int × Int} (h : nOk x) : 0 < (putN [x.1, x.2.1, x.2.2.1, x.2.2.2] 4).length ∧ (putN [x.1, x.2.1, x.2.2.1, x.2.2.2] 4).length ≤ 20 := by
  obtain ⟨h0, h1, h2, h3⟩ := h
  have b0 := okN_bd h0; have b1 := okN_bd h1; have b2 := okN_bd h2; have b3 := okN_bd h3
  have hx : ∀ j, [x.1, x.2.1, x.2.2.1, x.2.2.2].getD j 0 ≤ 2147483647 := by
    intro j
    match j with
    | 0 => simp; omega
    | 1 => simp; omega
    | 2 => simp; omega
    | 3 => simp; omega
    | n + 4 => simp
  have := putN_len [x.1, x.2.1, x.2.2.1, x.2.2.2] hx 4
  have p : ∀ u, 0 < (codePut u).length := fun u => by
    by_cases hu : u < 128
    · rw [codePut_small hu]; simp
    · rw [codePut_big hu]; simp
  refine ⟨?_, by omega⟩
  simp only [putN, List.length_append]
  have := p ([x.1, x.2.1, x.2.2.1, x.2.2.2].getD 0 0).toNat
  omega
theorem c_rGetPut (f : Bool) {x : Int × Int × Int × Int} (h : nOk x) : Contract Try.prog 38 [.sl f (bys (putN [x.1, x.2.1, x.2.2.1, x.2.2.2] 4))] (.tup [i64 x.1, .agg [i64 x.2.1, i64 x.2.2.1, i64 x.2.2.2], bo true]) [] := by
  have hl := (nb_len h).2
  obtain ⟨h0, h1, h2, h3⟩ := h
  obtain ⟨q, r⟩ := recOk_put (xs := [x.1, x.2.1, x.2.2.1, x.2.2.2]) (fun j hj => by
    match j, hj with
    | 0, _ => exact h0
    | 1, _ => exact h1
    | 2, _ => exact h2
    | 3, _ => exact h3
    | n + 4, hj => omega)
  have c := c_rGetOk f (putN [x.1, x.2.1, x.2.2.1, x.2.2.2] 4) (by omega) q
  rw [r 0 (by omega), r 1 (by omega), r 2 (by omega), r 3 (by omega)] at c
  exact c

/-- The notes that are taken: as long as they are numbered, of the generation. -/
def goodN (gen sq : Int) : List (Int × Int × Int × Int) → Nat → List (Int × Int × Int)
  | [], _ => []
  | x :: L, n => if x.1 = gen ∧ x.2.1 - sq = (n : Int) then x.2 :: goodN gen sq L (n + 1) else []

set_option maxRecDepth 20000 in
set_option maxHeartbeats 16000000 in
theorem c_areaYes (m : List UInt8) (n : Int) (k : Nat) (hl : m.length = 2048) (hk : k ≤ 1) (H B : List UInt8) (hHe : (m.drop (32 * (32 * k))).take 32 = H) (hBe : (m.drop (1024 * k + 32)).take 992 = B) (gen : Nat) (hgen : gen ≤ 2147483647) (hH : genOk H = true) (hV : genV H = (gen : Int))
    (P : List UInt8) (L : List (Int × Int × Int × Int)) (hP0 : 0 < P.length) (hP4 : P.length ≤ 400) (hL : ∀ x ∈ L, nOk x) (hLn : L.length ≤ 100) (hm : (frs (P :: nbs L)).length ≤ 992) (hbx : B.take (frs (P :: nbs L)).length = frs (P :: nbs L))
    (hall : Contract Try.prog 46 [.sl false (bys B)] (.tup [.own 0 0 (P :: nbs L).length, i64 (frs (P :: nbs L)).length]) [{ sz := 1, rows := bss (P :: nbs L) }])
    (sq st : Int) (S : List (Int × List Int)) (Q : List Int) (hsq : 0 ≤ sq ∧ sq ≤ 2147483647) (hP : gtRes P = .tup [i64 gen, .agg [i64 sq, i64 st, .sl false (srs S), .sl false (ints Q)], bo true]) :
    ContractM Try.prog 22 [{ sz := 2, rows := [[.own 1 0 2048, i64 n]], flat := false }, { sz := 1, rows := bys m }] [.ptr 0 0 0, i64 k]
      (.tup [.agg [i64 k, i64 gen, i64 sq, i64 st, .sl false (srs S), .sl false (ints Q), .sl false (rrs (goodN gen sq L 0))], .ptr 2 0 0, bo true])
      [some { sz := 2, rows := [[.own 1 0 2048, i64 n]], flat := false }, some { sz := 1, rows := bys m }, some { sz := 3, rows := [[i64 k, .own 3 0 992, i64 (frs (P :: nbs L)).length]], flat := false }, some { sz := 1, rows := bys (mz (frs (P :: nbs L))) }] := by
  refine contractM_of_awpV ttok (rs := [.cell 4 38, .tmp 5, .tmp 6]) Try.func22 rfl Try.ntmps22 (by simp) rfl fun E => ?_
  have hw : IntKind.i64.wrap ((k : Int) * 32) = ((32 * k : Nat) : Int) := by rw [i64_in (by omega) (by omega)]; omega
  have hR := c_dRead m n (32 * k) hl (by omega)
  have hAr := c_dArea m n k hl hk
  have hxl : ((m.drop (32 * (32 * k))).take 32).length = 32 := by simp; omega
  have hbl : ((m.drop (1024 * k + 32)).take 992).length = 992 := by simp; omega
  rw [hHe] at hR hxl
  rw [hBe] at hAr hbl
  have hG := c_Gen false H (by omega)
  rw [hH, hV] at hG
  have hmt : List.take 2048 m = m := List.take_of_length_le (by omega)
  have hHt : List.take 32 H = H := List.take_of_length_le (by omega)
  have hBt : List.take 992 B = B := List.take_of_length_le (by omega)
  have kt : (!true) = false := rfl
  have hFrom := c_jFrom false (k : Int) k (by omega) B hbl (P :: nbs L) hm hbx hall
  have hxs : ∀ x ∈ P :: nbs L, 0 < x.length ∧ x.length ≤ 400 := fun x hx => by
    rcases List.mem_cons.1 hx with rfl | hx
    · exact ⟨hP0, hP4⟩
    · obtain ⟨y, hy, rfl⟩ := List.mem_map.1 hx
      have := nb_len (hL y hy); omega
  have hxn : (P :: nbs L).length = L.length + 1 := by simp [nbs_len]
  have hAll := c_jAllM (P :: nbs L) (k : Int) ((frs (P :: nbs L)).length : Int) hxs (by omega) hm
  have hGet := c_sGet codeGet_le false P (by omega)
  rw [hP] at hGet
  have hml : (mz (frs (P :: nbs L))).length = 992 := mz_len hm
  have g0 : (bss (P :: nbs L)).getD 0 [] = [.sl false (bys P)] := rfl
  have gn : ∀ j, j < L.length → (bss (P :: nbs L)).getD (1 + j) [] = [.sl false (bys (putN [(L.getD j (0, 0, 0, 0)).1, (L.getD j (0, 0, 0, 0)).2.1, (L.getD j (0, 0, 0, 0)).2.2.1, (L.getD j (0, 0, 0, 0)).2.2.2] 4))] := fun j hj => by
    rw [Nat.add_comm]
    simp [bss, nbs, List.getD, List.getElem?_eq_getElem hj]
  have hbsl : (bss (P :: nbs L)).length = L.length + 1 := by rw [bss_len, hxn]
  generalize frs (P :: nbs L) = F at *
  rw [hxn] at hAll
  generalize bss (P :: nbs L) = XS at *
  (repeat (first | refine awp_seq ?_ | refine awp_block ?_ | ((first | refine awp_skip ?_ | refine awp_exit ?_ | refine awp_reg ttok ?_ | (refine awp_draw ttok ?dr_calm ?_; (case dr_calm => decide +kernel)) | refine awp_condM ?_); simp (maxSteps := 4000000) only [↓reduceIte, Nat.reduceLT, Nat.reduceEqDiff, reduceCtorEq, Nat.reduceAdd, Nat.reduceMul, Int.reduceLE, Int.reduceLT, Int.reduceToNat, Nat.reduceLeDiff, Nat.reduceSub, Int.reduceEq, Nat.reduceBEq, List.replicate, List.set, if_false, if_true, ne_eq, false_implies, implies_true, evA, tyA, hw, hmt, hl]; (repeat (with_reducible refine And.intro ?_ ?_; focus ((repeat' with_reducible apply And.intro) <;> (first | omega | with_reducible trivial | with_reducible assumption)))); (with_reducible first | refine awp_id ?_ | refine id_call ?_ | refine id_and ?_ | refine id_ex ?_ | refine id_all ?_ | refine id_le ?_))))
  refine callVC_own fnok33 hR rfl rfl (by simp only [List.all_cons, noI_bys, List.all_nil, Bool.and_self]) ?_
  simp (maxSteps := 4000000) only [↓reduceIte, Nat.reduceLT, Nat.reduceEqDiff, reduceCtorEq, Nat.reduceAdd, Nat.reduceMul, Int.reduceLE, Int.reduceLT, Int.reduceToNat, Nat.reduceLeDiff, Nat.reduceSub, Int.reduceEq, Nat.reduceBEq, List.replicate, List.set, if_false, if_true, ne_eq, false_implies, implies_true, evA, tyA, hHt, hxl]
  (repeat (with_reducible refine And.intro ?_ ?_; focus ((repeat' with_reducible apply And.intro) <;> (first | omega | with_reducible trivial | with_reducible assumption))))
  refine callVC_scal fnok32 hG rfl ?_
  simp (maxSteps := 4000000) only [↓reduceIte, Nat.reduceLT, Nat.reduceEqDiff, reduceCtorEq, Nat.reduceAdd, Nat.reduceMul, Int.reduceLE, Int.reduceLT, Int.reduceToNat, Nat.reduceLeDiff, Nat.reduceSub, Int.reduceEq, Nat.reduceBEq, List.replicate, List.set, if_false, if_true, ne_eq, false_implies, implies_true, evA, tyA, kt]
  (repeat (with_reducible refine And.intro ?_ ?_; focus ((repeat' with_reducible apply And.intro) <;> (first | omega | with_reducible trivial | with_reducible assumption))))
  (repeat (first | refine awp_seq ?_ | refine awp_block ?_ | ((first | refine awp_skip ?_ | refine awp_exit ?_ | refine awp_reg ttok ?_ | (refine awp_draw ttok ?dr_calm ?_; (case dr_calm => decide +kernel)) | refine awp_condM ?_); simp (maxSteps := 4000000) only [↓reduceIte, Nat.reduceLT, Nat.reduceEqDiff, reduceCtorEq, Nat.reduceAdd, Nat.reduceMul, Int.reduceLE, Int.reduceLT, Int.reduceToNat, Nat.reduceLeDiff, Nat.reduceSub, Int.reduceEq, Nat.reduceBEq, List.replicate, List.set, if_false, if_true, ne_eq, false_implies, implies_true, evA, tyA, kt, hmt, hl]; (repeat (with_reducible refine And.intro ?_ ?_; focus ((repeat' with_reducible apply And.intro) <;> (first | omega | with_reducible trivial | with_reducible assumption)))); (with_reducible first | refine awp_id ?_ | refine id_call ?_ | refine id_and ?_ | refine id_ex ?_ | refine id_all ?_ | refine id_le ?_))))
  refine callVC_own fnok35 hAr rfl rfl (by simp only [List.all_cons, noI_bys, List.all_nil, Bool.and_self]) ?_
  simp (maxSteps := 4000000) only [↓reduceIte, Nat.reduceLT, Nat.reduceEqDiff, reduceCtorEq, Nat.reduceAdd, Nat.reduceMul, Int.reduceLE, Int.reduceLT, Int.reduceToNat, Nat.reduceLeDiff, Nat.reduceSub, Int.reduceEq, Nat.reduceBEq, List.replicate, List.set, if_false, if_true, ne_eq, false_implies, implies_true, evA, tyA, hBt, hbl]
  (repeat (with_reducible refine And.intro ?_ ?_; focus ((repeat' with_reducible apply And.intro) <;> (first | omega | with_reducible trivial | with_reducible assumption))))
  refine callVC_mk fnok34 hFrom rfl ?_
  simp (maxSteps := 4000000) only [↓reduceIte, Nat.reduceLT, Nat.reduceEqDiff, reduceCtorEq, Nat.reduceAdd, Nat.reduceMul, Int.reduceLE, Int.reduceLT, Int.reduceToNat, Nat.reduceLeDiff, Nat.reduceSub, Int.reduceEq, Nat.reduceBEq, List.replicate, List.set, if_false, if_true, ne_eq, false_implies, implies_true, evA, tyA]
  (repeat (with_reducible refine And.intro ?_ ?_; focus ((repeat' with_reducible apply And.intro) <;> (first | omega | with_reducible trivial | with_reducible assumption))))
  (repeat (first | refine awp_seq ?_ | refine awp_block ?_ | ((first | refine awp_skip ?_ | refine awp_exit ?_ | refine awp_reg ttok ?_ | (refine awp_draw ttok ?dr_calm ?_; (case dr_calm => decide +kernel)) | refine awp_condM ?_); simp (maxSteps := 4000000) only [↓reduceIte, Nat.reduceLT, Nat.reduceEqDiff, reduceCtorEq, Nat.reduceAdd, Nat.reduceMul, Int.reduceLE, Int.reduceLT, Int.reduceToNat, Nat.reduceLeDiff, Nat.reduceSub, Int.reduceEq, Nat.reduceBEq, List.replicate, List.set, if_false, if_true, ne_eq, false_implies, implies_true, evA, tyA]; (repeat (with_reducible refine And.intro ?_ ?_; focus ((repeat' with_reducible apply And.intro) <;> (first | omega | with_reducible trivial | with_reducible assumption)))); (with_reducible first | refine awp_id ?_ | refine id_call ?_ | refine id_and ?_ | refine id_ex ?_ | refine id_all ?_ | refine id_le ?_))))
  refine callVC_M [105004, 105005] fnok36 hAll (by simp (maxSteps := 4000000) only [↓reduceIte, Nat.reduceLT, Nat.reduceEqDiff, reduceCtorEq, Nat.reduceAdd, Nat.reduceMul, Int.reduceLE, Int.reduceLT, Int.reduceToNat, Nat.reduceLeDiff, Nat.reduceSub, Int.reduceEq, Nat.reduceBEq, List.replicate, List.set, if_false, if_true, ne_eq, false_implies, implies_true, evA]; rfl) (by simp (maxSteps := 4000000) only [↓reduceIte, Nat.reduceLT, Nat.reduceEqDiff, reduceCtorEq, Nat.reduceAdd, Nat.reduceMul, Int.reduceLE, Int.reduceLT, Int.reduceToNat, Nat.reduceLeDiff, Nat.reduceSub, Int.reduceEq, Nat.reduceBEq, List.replicate, List.set, if_false, if_true, ne_eq, false_implies, implies_true, evA]) ?_
  have kl0 : (((L.length + 1 : Nat) : Int) == 0) = false := beq_eq_false_iff_ne.2 (by omega)
  have hs1 : IntKind.i64.wrap (((L.length + 1 : Nat) : Int) - 1) = (L.length : Int) := by rw [i64_in (by omega) (by omega)]; omega
  simp (maxSteps := 4000000) only [↓reduceIte, Nat.reduceLT, Nat.reduceEqDiff, reduceCtorEq, Nat.reduceAdd, Nat.reduceMul, Int.reduceLE, Int.reduceLT, Int.reduceToNat, Nat.reduceLeDiff, Nat.reduceSub, Int.reduceEq, Nat.reduceBEq, List.replicate, List.set, if_false, if_true, ne_eq, false_implies, implies_true, evA, tyA]
  (repeat (with_reducible refine And.intro ?_ ?_; focus ((repeat' with_reducible apply And.intro) <;> (first | omega | with_reducible trivial | with_reducible assumption))))
  (repeat (first | refine awp_seq ?_ | refine awp_block ?_ | ((first | refine awp_skip ?_ | refine awp_exit ?_ | refine awp_reg ttok ?_ | (refine awp_draw ttok ?dr_calm ?_; (case dr_calm => decide +kernel)) | refine awp_condM ?_); simp (maxSteps := 4000000) only [↓reduceIte, Nat.reduceLT, Nat.reduceEqDiff, reduceCtorEq, Nat.reduceAdd, Nat.reduceMul, Int.reduceLE, Int.reduceLT, Int.reduceToNat, Nat.reduceLeDiff, Nat.reduceSub, Int.reduceEq, Nat.reduceBEq, List.replicate, List.set, if_false, if_true, ne_eq, false_implies, implies_true, evA, tyA, kl0, g0, hbsl]; (repeat (with_reducible refine And.intro ?_ ?_; focus ((repeat' with_reducible apply And.intro) <;> (first | omega | with_reducible trivial | with_reducible assumption)))); (with_reducible first | refine awp_id ?_ | refine id_call ?_ | refine id_and ?_ | refine id_ex ?_ | refine id_all ?_ | refine id_le ?_))))
  refine callVC_mk fnok37 hGet rfl ?_
  simp (maxSteps := 4000000) only [↓reduceIte, Nat.reduceLT, Nat.reduceEqDiff, reduceCtorEq, Nat.reduceAdd, Nat.reduceMul, Int.reduceLE, Int.reduceLT, Int.reduceToNat, Nat.reduceLeDiff, Nat.reduceSub, Int.reduceEq, Nat.reduceBEq, List.replicate, List.set, if_false, if_true, ne_eq, false_implies, implies_true, evA, tyA]
  (repeat (with_reducible refine And.intro ?_ ?_; focus ((repeat' with_reducible apply And.intro) <;> (first | omega | with_reducible trivial | with_reducible assumption))))
  have h11 : L.length + 1 - 1 = L.length := rfl
  (repeat (first | refine awp_seq ?_ | refine awp_block ?_ | ((first | refine awp_skip ?_ | refine awp_exit ?_ | refine awp_reg ttok ?_ | (refine awp_draw ttok ?dr_calm ?_; (case dr_calm => decide +kernel)) | refine awp_condM ?_); simp (maxSteps := 4000000) only [↓reduceIte, Nat.reduceLT, Nat.reduceEqDiff, reduceCtorEq, Nat.reduceAdd, Nat.reduceMul, Int.reduceLE, Int.reduceLT, Int.reduceToNat, Nat.reduceLeDiff, Nat.reduceSub, Int.reduceEq, Nat.reduceBEq, List.replicate, List.set, if_false, if_true, ne_eq, false_implies, implies_true, evA, tyA, kt, bne_self_eq_false, hbsl, h11]; (repeat (with_reducible refine And.intro ?_ ?_; focus ((repeat' with_reducible apply And.intro) <;> (first | omega | with_reducible trivial | with_reducible assumption)))); (with_reducible first | refine awp_id ?_ | refine id_call ?_ | refine id_and ?_ | refine id_ex ?_ | refine id_all ?_ | refine id_le ?_))))
  refine awp_at 100 [(4, _), (7, _), (9, _), (12, _), (13, _), (62, _), (63, _), (64, _)] [(0, _), (1, _), (1000, _), (9008, _), (12004, _), (105004, _), (105005, _), (106003, _)] rfl (by (first | simp (maxSteps := 4000000) only [↓reduceIte, Nat.reduceLT, Nat.reduceEqDiff, reduceCtorEq, Nat.reduceAdd, Nat.reduceMul, Int.reduceLE, Int.reduceLT, Int.reduceToNat, Nat.reduceLeDiff, Nat.reduceSub, Int.reduceEq, Nat.reduceBEq, List.replicate, List.set, if_false, if_true, ne_eq, false_implies, implies_true, evA] | skip); exact ⟨rfl, rfl, rfl, rfl, rfl, rfl, rfl, rfl⟩) (by (first | simp (maxSteps := 4000000) only [↓reduceIte, Nat.reduceLT, Nat.reduceEqDiff, reduceCtorEq, Nat.reduceAdd, Nat.reduceMul, Int.reduceLE, Int.reduceLT, Int.reduceToNat, Nat.reduceLeDiff, Nat.reduceSub, Int.reduceEq, Nat.reduceBEq, List.replicate, List.set, if_false, if_true, ne_eq, false_implies, implies_true, evA] | skip); exact ⟨rfl, rfl, rfl, rfl, rfl, rfl, rfl, rfl⟩) ?_
  refine awp_own_nilC 12004 0 6 9000 3 (by decide) (by simp (maxSteps := 4000000) only [↓reduceIte, Nat.reduceLT, Nat.reduceEqDiff, reduceCtorEq, Nat.reduceAdd, Nat.reduceMul, Int.reduceLE, Int.reduceLT, Int.reduceToNat, Nat.reduceLeDiff, Nat.reduceSub, Int.reduceEq, Nat.reduceBEq, List.replicate, List.set, if_false, if_true, ne_eq, false_implies, implies_true, evA]; rfl) rfl rfl rfl ?_
  refine awp_at 100 [(4, _), (7, _), (9, _), (12, _), (13, _), (62, _), (63, _), (64, _)] [(0, _), (1, _), (1000, _), (9008, _), (12004, _), (105004, _), (105005, _), (106003, _), (9000, _)] rfl (by (first | simp (maxSteps := 4000000) only [↓reduceIte, Nat.reduceLT, Nat.reduceEqDiff, reduceCtorEq, Nat.reduceAdd, Nat.reduceMul, Int.reduceLE, Int.reduceLT, Int.reduceToNat, Nat.reduceLeDiff, Nat.reduceSub, Int.reduceEq, Nat.reduceBEq, List.replicate, List.set, if_false, if_true, ne_eq, false_implies, implies_true, evA] | skip); exact ⟨rfl, rfl, rfl, rfl, rfl, rfl, rfl, rfl⟩) (by (first | simp (maxSteps := 4000000) only [↓reduceIte, Nat.reduceLT, Nat.reduceEqDiff, reduceCtorEq, Nat.reduceAdd, Nat.reduceMul, Int.reduceLE, Int.reduceLT, Int.reduceToNat, Nat.reduceLeDiff, Nat.reduceSub, Int.reduceEq, Nat.reduceBEq, List.replicate, List.set, if_false, if_true, ne_eq, false_implies, implies_true, evA] | skip); exact ⟨rfl, rfl, rfl, rfl, rfl, rfl, rfl, rfl, rfl⟩) ?_
  obtain ⟨R, hRR⟩ : ∃ R, R = goodN gen sq L 0 := ⟨_, rfl⟩
  rw [← hRR]
  refine awp_joinX (X := Unit) 0 (fun _ => mkS 100 [(4, .ptr 1000 0 0), (9, .ptr 105004 0 0), (13, .ptr 12004 0 0)] [(0, { sz := 2, rows := [[.own 1 0 2048, i64 n]], flat := false, pin := true }), (1, { sz := 1, rows := bys m, pin := true }), (1000, { sz := 7, rows := [fnd0], flat := false }), (12004, { sz := 7, rows := [[i64 k, i64 gen, i64 sq, i64 st, .sl false (srs S), .sl false (ints Q), .own 9000 0 R.length]], flat := false }), (105004, { sz := 3, rows := [[i64 k, .own 105005 0 992, i64 F.length]], flat := false }), (105005, { sz := 1, rows := bys (mz F) }), (9000, { sz := 3, rows := rrs R })]) (fun _ => True) ?_ ?_
  · intro _ _
    have hRt : List.take R.length R = R := List.take_length
    refine awp_pureO 12004 (by simp (maxSteps := 4000000) only [↓reduceIte, Nat.reduceLT, Nat.reduceEqDiff, reduceCtorEq, Nat.reduceAdd, Nat.reduceMul, Int.reduceLE, Int.reduceLT, Int.reduceToNat, Nat.reduceLeDiff, Nat.reduceSub, Int.reduceEq, Nat.reduceBEq, List.replicate, List.set, if_false, if_true, ne_eq, false_implies, implies_true, evA]; rfl) rfl (by simp (maxSteps := 4000000) only [↓reduceIte, Nat.reduceLT, Nat.reduceEqDiff, reduceCtorEq, Nat.reduceAdd, Nat.reduceMul, Int.reduceLE, Int.reduceLT, Int.reduceToNat, Nat.reduceLeDiff, Nat.reduceSub, Int.reduceEq, Nat.reduceBEq, List.replicate, List.set, if_false, if_true, ne_eq, false_implies, implies_true, evA, rrs_take, hRt]; rfl) (by simp (maxSteps := 4000000) only [↓reduceIte, Nat.reduceLT, Nat.reduceEqDiff, reduceCtorEq, Nat.reduceAdd, Nat.reduceMul, Int.reduceLE, Int.reduceLT, Int.reduceToNat, Nat.reduceLeDiff, Nat.reduceSub, Int.reduceEq, Nat.reduceBEq, List.replicate, List.set, if_false, if_true, ne_eq, false_implies, implies_true, evA, rrs_len]) (by decide) ?_
    (repeat (first | refine awp_seq ?_ | refine awp_block ?_ | ((first | refine awp_skip ?_ | refine awp_exit ?_ | refine awp_reg ttok ?_ | (refine awp_draw ttok ?dr_calm ?_; (case dr_calm => decide +kernel)) | refine awp_condM ?_); simp (maxSteps := 4000000) only [↓reduceIte, Nat.reduceLT, Nat.reduceEqDiff, reduceCtorEq, Nat.reduceAdd, Nat.reduceMul, Int.reduceLE, Int.reduceLT, Int.reduceToNat, Nat.reduceLeDiff, Nat.reduceSub, Int.reduceEq, Nat.reduceBEq, List.replicate, List.set, if_false, if_true, ne_eq, false_implies, implies_true, evA, tyA]; (repeat (with_reducible refine And.intro ?_ ?_; focus ((repeat' with_reducible apply And.intro) <;> (first | omega | with_reducible trivial | with_reducible assumption)))); (with_reducible first | refine awp_id ?_ | refine id_call ?_ | refine id_and ?_ | refine id_ex ?_ | refine id_all ?_ | refine id_le ?_))))
    exact awp_ret (endsMV [0, 1, 105004, 105005] (.inr rfl) (by simp (maxSteps := 4000000) only [↓reduceIte, Nat.reduceLT, Nat.reduceEqDiff, reduceCtorEq, Nat.reduceAdd, Nat.reduceMul, Int.reduceLE, Int.reduceLT, Int.reduceToNat, Nat.reduceLeDiff, Nat.reduceSub, Int.reduceEq, Nat.reduceBEq, List.replicate, List.set, if_false, if_true, ne_eq, false_implies, implies_true, evA, tyA]; rfl) (by simp (maxSteps := 4000000) only [↓reduceIte, Nat.reduceLT, Nat.reduceEqDiff, reduceCtorEq, Nat.reduceAdd, Nat.reduceMul, Int.reduceLE, Int.reduceLT, Int.reduceToNat, Nat.reduceLeDiff, Nat.reduceSub, Int.reduceEq, Nat.reduceBEq, List.replicate, List.set, if_false, if_true, ne_eq, false_implies, implies_true, evA]))
  refine awp_loop (X := Nat) (fun j => mkS 100 [(4, .ptr 1000 0 0), (7, i64 gen), (9, .ptr 105004 0 0), (12, .ptr 9008 0 0), (13, .ptr 12004 0 0), (62, .own 106003 1 L.length), (63, i64 L.length), (64, i64 j)] [(0, { sz := 2, rows := [[.own 1 0 2048, i64 n]], flat := false, pin := true }), (1, { sz := 1, rows := bys m, pin := true }), (1000, { sz := 7, rows := [fnd0], flat := false }), (9008, { sz := 4, rows := [[i64 sq, i64 st, .sl false (srs S), .sl false (ints Q)]], flat := false }), (12004, { sz := 7, rows := [[i64 k, i64 gen, i64 sq, i64 st, .sl false (srs S), .sl false (ints Q), .own 9000 0 j]], flat := false }), (105004, { sz := 3, rows := [[i64 k, .own 105005 0 992, i64 F.length]], flat := false }), (105005, { sz := 1, rows := bys (mz F) }), (106003, { sz := 1, rows := XS }), (9000, { sz := 3, rows := rrs ((L.take j).map (·.2)) })])
    (fun j => j ≤ L.length ∧ R = (L.take j).map (·.2) ++ goodN gen sq (L.drop j) j) (fun j => L.length - j) 0 ⟨by omega, by simpa using hRR⟩ (mkS_le rfl ?_ ?_) ?_
  · simp (maxSteps := 4000000) only [↓reduceIte, Nat.reduceLT, Nat.reduceEqDiff, reduceCtorEq, Nat.reduceAdd, Nat.reduceMul, Int.reduceLE, Int.reduceLT, Int.reduceToNat, Nat.reduceLeDiff, Nat.reduceSub, Int.reduceEq, Nat.reduceBEq, List.replicate, List.set, if_false, if_true, ne_eq, false_implies, implies_true, evA]
    try rfl
  · simp (maxSteps := 4000000) only [↓reduceIte, Nat.reduceLT, Nat.reduceEqDiff, reduceCtorEq, Nat.reduceAdd, Nat.reduceMul, Int.reduceLE, Int.reduceLT, Int.reduceToNat, Nat.reduceLeDiff, Nat.reduceSub, Int.reduceEq, Nat.reduceBEq, List.replicate, List.set, if_false, if_true, ne_eq, false_implies, implies_true, evA, fnd0]
    try rfl
  rintro j ⟨hj, hq⟩
  have hlj : ((L.take j).map (·.2)).length = j := by simp; omega
  by_cases hlt : j < L.length
  · have d1 : decide ((j : Int) < (L.length : Int)) = true := by simpa using hlt
    have gj := gn j hlt
    have hdrop : L.drop j = L.getD j (0, 0, 0, 0) :: L.drop (j + 1) := by
      rw [List.drop_eq_getElem_cons hlt]; simp [List.getD, List.getElem?_eq_getElem hlt]
    have htk : (L.take (j + 1)).map (·.2) = (L.take j).map (·.2) ++ [(L.getD j (0, 0, 0, 0)).2] := by
      have e : L.getD j (0, 0, 0, 0) = L[j] := by simp [List.getD, List.getElem?_eq_getElem hlt]
      rw [e, List.take_succ_eq_append_getElem hlt, List.map_append]; rfl
    have hxj : nOk (L.getD j (0, 0, 0, 0)) := hL _ (by simp [List.getD, List.getElem?_eq_getElem hlt])
    rw [hdrop, goodN] at hq
    have hget := c_rGetPut false hxj
    obtain ⟨o0, o1, o2, o3⟩ := hxj
    have bo1 := okN_bd o1
    generalize L.getD j (0, 0, 0, 0) = x at *
    have hw1 : IntKind.i64.wrap ((j : Int) + 1) = ((j + 1 : Nat) : Int) := i64_in (by omega) (by omega)
    have hw2 : IntKind.i64.wrap (x.2.1 - sq) = x.2.1 - sq := i64_in (by omega) (by omega)
    have hj1 : 1 + j < L.length + 1 := by omega
    (repeat (first | refine awp_seq ?_ | refine awp_block ?_ | ((first | refine awp_skip ?_ | refine awp_exit ?_ | refine awp_reg ttok ?_ | (refine awp_draw ttok ?dr_calm ?_; (case dr_calm => decide +kernel)) | refine awp_condM ?_); simp (maxSteps := 4000000) only [↓reduceIte, Nat.reduceLT, Nat.reduceEqDiff, reduceCtorEq, Nat.reduceAdd, Nat.reduceMul, Int.reduceLE, Int.reduceLT, Int.reduceToNat, Nat.reduceLeDiff, Nat.reduceSub, Int.reduceEq, Nat.reduceBEq, List.replicate, List.set, if_false, if_true, ne_eq, false_implies, implies_true, evA, tyA, d1, gj, hbsl]; (repeat (with_reducible refine And.intro ?_ ?_; focus ((repeat' with_reducible apply And.intro) <;> (first | omega | with_reducible trivial | with_reducible assumption)))); (with_reducible first | refine awp_id ?_ | refine id_call ?_ | refine id_and ?_ | refine id_ex ?_ | refine id_all ?_ | refine id_le ?_))))
    refine callVC_mk fnok38 hget rfl ?_
    by_cases c1 : x.1 = (gen : Int)
    · have k1 : (x.1 != (gen : Int)) = false := by rw [c1]; exact bne_self_eq_false _
      by_cases c2 : x.2.1 - sq = (j : Int)
      · have k2 : (x.2.1 - sq != (j : Int)) = false := by rw [c2]; exact bne_self_eq_false _
        rw [if_pos ⟨c1, c2⟩] at hq
        have hone : [[i64 x.2.1, i64 x.2.2.1, i64 x.2.2.2]] = rrs [x.2] := rfl
        have htj : List.take j ((L.take j).map (·.2)) = (L.take j).map (·.2) := List.take_of_length_le (by omega)
        simp (maxSteps := 4000000) only [↓reduceIte, Nat.reduceLT, Nat.reduceEqDiff, reduceCtorEq, Nat.reduceAdd, Nat.reduceMul, Int.reduceLE, Int.reduceLT, Int.reduceToNat, Nat.reduceLeDiff, Nat.reduceSub, Int.reduceEq, Nat.reduceBEq, List.replicate, List.set, if_false, if_true, ne_eq, false_implies, implies_true, evA, tyA, kt, k1, hw2, k2]
        (repeat (with_reducible refine And.intro ?_ ?_; focus ((repeat' with_reducible apply And.intro) <;> (first | omega | with_reducible trivial | with_reducible assumption))))
        have hg1 : (rrs [x.2]).getD 0 [] = [i64 x.2.1, i64 x.2.2.1, i64 x.2.2.2] := rfl
        (repeat (first | refine awp_seq ?_ | refine awp_block ?_ | ((first | refine awp_skip ?_ | refine awp_exit ?_ | refine awp_reg ttok ?_ | (refine awp_draw ttok ?dr_calm ?_; (case dr_calm => decide +kernel)) | refine awp_condM ?_); simp (maxSteps := 4000000) only [↓reduceIte, Nat.reduceLT, Nat.reduceEqDiff, reduceCtorEq, Nat.reduceAdd, Nat.reduceMul, Int.reduceLE, Int.reduceLT, Int.reduceToNat, Nat.reduceLeDiff, Nat.reduceSub, Int.reduceEq, Nat.reduceBEq, List.replicate, List.set, if_false, if_true, ne_eq, false_implies, implies_true, evA, tyA, kt, k1, hw2, k2, hone, hg1, rrs_len, rrs_row, rrs_app, rrs_take, hlj, htj, hw1]; (repeat (with_reducible refine And.intro ?_ ?_; focus ((repeat' with_reducible apply And.intro) <;> (first | omega | with_reducible trivial | with_reducible assumption)))); (with_reducible first | refine awp_id ?_ | refine id_call ?_ | refine id_and ?_ | refine id_ex ?_ | refine id_all ?_ | refine id_le ?_))))
        refine ⟨j + 1, ⟨by omega, by rw [htk, hq]; simp⟩, by omega, mkS_le rfl ?_ ?_⟩
        · simp (maxSteps := 4000000) only [↓reduceIte, Nat.reduceLT, Nat.reduceEqDiff, reduceCtorEq, Nat.reduceAdd, Nat.reduceMul, Int.reduceLE, Int.reduceLT, Int.reduceToNat, Nat.reduceLeDiff, Nat.reduceSub, Int.reduceEq, Nat.reduceBEq, List.replicate, List.set, if_false, if_true, ne_eq, false_implies, implies_true, evA]
        · simp (maxSteps := 4000000) only [↓reduceIte, Nat.reduceLT, Nat.reduceEqDiff, reduceCtorEq, Nat.reduceAdd, Nat.reduceMul, Int.reduceLE, Int.reduceLT, Int.reduceToNat, Nat.reduceLeDiff, Nat.reduceSub, Int.reduceEq, Nat.reduceBEq, List.replicate, List.set, if_false, if_true, ne_eq, false_implies, implies_true, evA, htk, fnd0]
      · have k2 : (x.2.1 - sq != (j : Int)) = true := bne_iff_ne.2 c2
        rw [if_neg (fun h => c2 h.2), List.append_nil] at hq
        have hRl : R.length = j := by rw [hq]; exact hlj
        simp (maxSteps := 4000000) only [↓reduceIte, Nat.reduceLT, Nat.reduceEqDiff, reduceCtorEq, Nat.reduceAdd, Nat.reduceMul, Int.reduceLE, Int.reduceLT, Int.reduceToNat, Nat.reduceLeDiff, Nat.reduceSub, Int.reduceEq, Nat.reduceBEq, List.replicate, List.set, if_false, if_true, ne_eq, false_implies, implies_true, evA, tyA, kt, k1, hw2, k2]
        (repeat (with_reducible refine And.intro ?_ ?_; focus ((repeat' with_reducible apply And.intro) <;> (first | omega | with_reducible trivial | with_reducible assumption))))
        (repeat (first | refine awp_seq ?_ | refine awp_block ?_ | ((first | refine awp_skip ?_ | refine awp_exit ?_ | refine awp_reg ttok ?_ | (refine awp_draw ttok ?dr_calm ?_; (case dr_calm => decide +kernel)) | refine awp_condM ?_); simp (maxSteps := 4000000) only [↓reduceIte, Nat.reduceLT, Nat.reduceEqDiff, reduceCtorEq, Nat.reduceAdd, Nat.reduceMul, Int.reduceLE, Int.reduceLT, Int.reduceToNat, Nat.reduceLeDiff, Nat.reduceSub, Int.reduceEq, Nat.reduceBEq, List.replicate, List.set, if_false, if_true, ne_eq, false_implies, implies_true, evA, tyA, kt, k1, hw2, k2, joinX]; (repeat (with_reducible refine And.intro ?_ ?_; focus ((repeat' with_reducible apply And.intro) <;> (first | omega | with_reducible trivial | with_reducible assumption)))); (with_reducible first | refine awp_id ?_ | refine id_call ?_ | refine id_and ?_ | refine id_ex ?_ | refine id_all ?_ | refine id_le ?_))))
        refine ⟨(), mkS_le rfl ?_ ?_⟩
        · simp (maxSteps := 4000000) only [↓reduceIte, Nat.reduceLT, Nat.reduceEqDiff, reduceCtorEq, Nat.reduceAdd, Nat.reduceMul, Int.reduceLE, Int.reduceLT, Int.reduceToNat, Nat.reduceLeDiff, Nat.reduceSub, Int.reduceEq, Nat.reduceBEq, List.replicate, List.set, if_false, if_true, ne_eq, false_implies, implies_true, evA]
        · simp (maxSteps := 4000000) only [↓reduceIte, Nat.reduceLT, Nat.reduceEqDiff, reduceCtorEq, Nat.reduceAdd, Nat.reduceMul, Int.reduceLE, Int.reduceLT, Int.reduceToNat, Nat.reduceLeDiff, Nat.reduceSub, Int.reduceEq, Nat.reduceBEq, List.replicate, List.set, if_false, if_true, ne_eq, false_implies, implies_true, evA, hRl, ← hq, fnd0]
    · have k1 : (x.1 != (gen : Int)) = true := bne_iff_ne.2 c1
      rw [if_neg (fun h => c1 h.1), List.append_nil] at hq
      have hRl : R.length = j := by rw [hq]; exact hlj
      simp (maxSteps := 4000000) only [↓reduceIte, Nat.reduceLT, Nat.reduceEqDiff, reduceCtorEq, Nat.reduceAdd, Nat.reduceMul, Int.reduceLE, Int.reduceLT, Int.reduceToNat, Nat.reduceLeDiff, Nat.reduceSub, Int.reduceEq, Nat.reduceBEq, List.replicate, List.set, if_false, if_true, ne_eq, false_implies, implies_true, evA, tyA, kt, k1]
      (repeat (with_reducible refine And.intro ?_ ?_; focus ((repeat' with_reducible apply And.intro) <;> (first | omega | with_reducible trivial | with_reducible assumption))))
      (repeat (first | refine awp_seq ?_ | refine awp_block ?_ | ((first | refine awp_skip ?_ | refine awp_exit ?_ | refine awp_reg ttok ?_ | (refine awp_draw ttok ?dr_calm ?_; (case dr_calm => decide +kernel)) | refine awp_condM ?_); simp (maxSteps := 4000000) only [↓reduceIte, Nat.reduceLT, Nat.reduceEqDiff, reduceCtorEq, Nat.reduceAdd, Nat.reduceMul, Int.reduceLE, Int.reduceLT, Int.reduceToNat, Nat.reduceLeDiff, Nat.reduceSub, Int.reduceEq, Nat.reduceBEq, List.replicate, List.set, if_false, if_true, ne_eq, false_implies, implies_true, evA, tyA, kt, k1, joinX]; (repeat (with_reducible refine And.intro ?_ ?_; focus ((repeat' with_reducible apply And.intro) <;> (first | omega | with_reducible trivial | with_reducible assumption)))); (with_reducible first | refine awp_id ?_ | refine id_call ?_ | refine id_and ?_ | refine id_ex ?_ | refine id_all ?_ | refine id_le ?_))))
      refine ⟨(), mkS_le rfl ?_ ?_⟩
      · simp (maxSteps := 4000000) only [↓reduceIte, Nat.reduceLT, Nat.reduceEqDiff, reduceCtorEq, Nat.reduceAdd, Nat.reduceMul, Int.reduceLE, Int.reduceLT, Int.reduceToNat, Nat.reduceLeDiff, Nat.reduceSub, Int.reduceEq, Nat.reduceBEq, List.replicate, List.set, if_false, if_true, ne_eq, false_implies, implies_true, evA]
      · simp (maxSteps := 4000000) only [↓reduceIte, Nat.reduceLT, Nat.reduceEqDiff, reduceCtorEq, Nat.reduceAdd, Nat.reduceMul, Int.reduceLE, Int.reduceLT, Int.reduceToNat, Nat.reduceLeDiff, Nat.reduceSub, Int.reduceEq, Nat.reduceBEq, List.replicate, List.set, if_false, if_true, ne_eq, false_implies, implies_true, evA, hRl, ← hq, fnd0]
  · have d1 : decide ((j : Int) < (L.length : Int)) = false := by simpa using hlt
    obtain rfl : j = L.length := by omega
    rw [List.drop_length, goodN, List.append_nil, List.take_length] at hq
    have hRl : R.length = L.length := by rw [hq]; simp
    (repeat (first | refine awp_seq ?_ | refine awp_block ?_ | ((first | refine awp_skip ?_ | refine awp_exit ?_ | refine awp_reg ttok ?_ | (refine awp_draw ttok ?dr_calm ?_; (case dr_calm => decide +kernel)) | refine awp_condM ?_); simp (maxSteps := 4000000) only [↓reduceIte, Nat.reduceLT, Nat.reduceEqDiff, reduceCtorEq, Nat.reduceAdd, Nat.reduceMul, Int.reduceLE, Int.reduceLT, Int.reduceToNat, Nat.reduceLeDiff, Nat.reduceSub, Int.reduceEq, Nat.reduceBEq, List.replicate, List.set, if_false, if_true, ne_eq, false_implies, implies_true, evA, tyA, d1, joinX]; (repeat (with_reducible refine And.intro ?_ ?_; focus ((repeat' with_reducible apply And.intro) <;> (first | omega | with_reducible trivial | with_reducible assumption)))); (with_reducible first | refine awp_id ?_ | refine id_call ?_ | refine id_and ?_ | refine id_ex ?_ | refine id_all ?_ | refine id_le ?_))))
    refine ⟨(), mkS_le rfl ?_ ?_⟩
    · simp (maxSteps := 4000000) only [↓reduceIte, Nat.reduceLT, Nat.reduceEqDiff, reduceCtorEq, Nat.reduceAdd, Nat.reduceMul, Int.reduceLE, Int.reduceLT, Int.reduceToNat, Nat.reduceLeDiff, Nat.reduceSub, Int.reduceEq, Nat.reduceBEq, List.replicate, List.set, if_false, if_true, ne_eq, false_implies, implies_true, evA]
    · simp (maxSteps := 4000000) only [↓reduceIte, Nat.reduceLT, Nat.reduceEqDiff, reduceCtorEq, Nat.reduceAdd, Nat.reduceMul, Int.reduceLE, Int.reduceLT, Int.reduceToNat, Nat.reduceLeDiff, Nat.reduceSub, Int.reduceEq, Nat.reduceBEq, List.replicate, List.set, if_false, if_true, ne_eq, false_implies, implies_true, evA, hRl, List.take_length, ← hq, fnd0]

end Go.Proofs.Ytmfonlkigjpjcaa
