import Derived.Test.YtcpipfodedfpkaaTy
import Derived.Test.YtcpipfodedfpkaaLv
import Derived.Test.YtcpipfodedfpkaaHo
import Derived.Test.YtcpipfodedfpkaaEs
import Derived.Test.YtcpipfodedfpkaaClo
import Derived.Test.YtcpipfodedfpkaaRows
import Derived.Test.YtcpipfodedfpkaaFin
set_option linter.unusedSimpArgs false
set_option linter.unusedVariables false
namespace Go.Proofs.Ytcpipfodedfpkaa
open Go.Ab
def ext (L : Nat) (w : List Int) : List (List Int) := (List.range L).map fun (a : Nat) => w ++ [(a : Int)]
def wdP (L : Nat) (W : List (List Int)) (k a : Nat) : List (List Int) := ((W.take k).flatMap (ext L)) ++ (ext L (W.getD k [])).take a
theorem wdP_zero (L : Nat) (W : List (List Int)) : wdP L W 0 0 = [] := by simp [wdP]
theorem wdP_step (L : Nat) (W : List (List Int)) (k a : Nat) (ha : a < L) : wdP L W k (a + 1) = wdP L W k a ++ [W.getD k [] ++ [(a : Int)]] := by
  have hlen : (ext L (W.getD k [])).length = L := by simp [ext]
  rw [wdP, wdP, take_snoc (by omega) [], ← List.append_assoc]
  congr 2
  have : a < (ext L (W.getD k [])).length := by omega
  rw [List.getD, List.getElem?_eq_getElem this]
  simp [ext]
theorem wdP_next (L : Nat) (W : List (List Int)) (k : Nat) (hk : k < W.length) : wdP L W (k + 1) 0 = wdP L W k L := by
  have hlen : (ext L (W.getD k [])).length = L := by simp [ext]
  rw [wdP, wdP, take_snoc hk [], List.flatMap_append, List.take_zero, List.append_nil, List.take_of_length_le (Nat.le_of_eq hlen)]
  rw [List.flatMap_cons, List.flatMap_nil, List.append_nil]
theorem wdP_all (L n : Nat) : wdP L (wordsL L n) (wordsL L n).length 0 = wordsL L (n + 1) := by
  rw [wdP, List.take_length, List.take_zero, List.append_nil]
  rfl
theorem wdP_len (L : Nat) (W : List (List Int)) (k a : Nat) (hk : k ≤ W.length) (ha : a ≤ L) : (wdP L W k a).length = k * L + a := by
  have key : ∀ l : List (List Int), (l.flatMap (ext L)).length = l.length * L := fun l => by
    induction l with
    | nil => simp
    | cons x l ih => simp [ih, ext, Nat.add_mul, Nat.add_comm]
  rw [wdP, List.length_append, key, List.length_take, List.length_take, Nat.min_eq_left hk]
  have : (ext L (W.getD k [])).length = L := by simp [ext]
  omega
theorem wordsL_bound {L n i : Nat} (hL : L ≤ 4) (hn : n ≤ 10) (hi : i ≤ n) : (wordsL L i).length ≤ 1048576 := by
  rw [wordsL_len]
  exact Nat.le_trans (Nat.pow_le_pow_left hL i) (Nat.le_trans (Nat.pow_le_pow_right (by decide) (show i ≤ 10 by omega)) (by decide))
set_option maxRecDepth 20000 in
set_option maxHeartbeats 16000000 in
theorem c_Words (L n : Nat) (hL : L ≤ 4) (hn : n ≤ 10) : Contract Try.prog 44 [i64 L, i64 n] (.sl false (iis (wordsL L n))) [] := by
  refine contract_of_awp (rs := [4]) Try.func44 rfl Try.ntmps44 (by simp) rfl fun E => ?_
  (repeat (first | refine awp_seq ?_ | refine awp_block ?_ | ((first | refine awp_skip ?_ | refine awp_exit ?_ | refine awp_reg ttok ?_ | (refine awp_draw ttok ?dr_calm ?_; (case dr_calm => decide +kernel)) | refine awp_condM ?_); simp (maxSteps := 4000000) only [↓reduceIte, Nat.reduceLT, Nat.reduceEqDiff, reduceCtorEq, Nat.reduceAdd, Nat.reduceMul, Int.reduceLE, Int.reduceLT, Int.reduceToNat, Nat.reduceLeDiff, Nat.reduceSub, Int.reduceEq, Nat.reduceBEq, List.replicate, List.set, evB, tyA]; (repeat (with_reducible refine And.intro ?_ ?_; exact sdX)); (with_reducible first | refine awp_id ?_ | refine id_call ?_ | refine id_and ?_ | refine id_ex ?_ | refine id_all ?_ | refine id_nat ?_ | refine id_le ?_))))
  refine awp_swap 2001 70001 ?_
  refine awp_loop (X := Nat) (fun i => mkS 43 [(0, i64 L), (1, i64 n), (5, .own 70001 0 (wordsL L i).length), (6, i64 i)] [(70001, { sz := 1, rows := iis (wordsL L i) })]) (fun i => i ≤ n) (fun i => n - i) 0 (Nat.zero_le _) (mkS_le rfl ?_ ?_) ?_
  · simp (maxSteps := 4000000) only [↓reduceIte, Nat.reduceLT, Nat.reduceEqDiff, reduceCtorEq, Nat.reduceAdd, Nat.reduceMul, Int.reduceLE, Int.reduceLT, Int.reduceToNat, Nat.reduceLeDiff, Nat.reduceSub, Int.reduceEq, Nat.reduceBEq, List.replicate, List.set, evB]
    exact ⟨rfl, rfl⟩
  · simp (maxSteps := 4000000) only [↓reduceIte, Nat.reduceLT, Nat.reduceEqDiff, reduceCtorEq, Nat.reduceAdd, Nat.reduceMul, Int.reduceLE, Int.reduceLT, Int.reduceToNat, Nat.reduceLeDiff, Nat.reduceSub, Int.reduceEq, Nat.reduceBEq, List.replicate, List.set, evB]
    try rfl
  · intro i hi
    by_cases hlt : i < n
    · have d1 : decide ((i : Int) < (n : Int)) = true := by simpa using hlt
      have hwl := wordsL_bound hL hn (Nat.le_of_lt hlt)
      have hall := wdP_all L i
      have hwk : ∀ k, k < (wordsL L i).length → ((wordsL L i).getD k []).length ≤ 10 := fun k hk => by
        have := (wordsL_mem (L := L) (n := i) (w := (wordsL L i).getD k [])).1 (by rw [List.getD, List.getElem?_eq_getElem hk]; exact List.getElem_mem _)
        omega
      generalize wordsL L i = W at *
      (repeat (first | refine awp_seq ?_ | refine awp_block ?_ | ((first | refine awp_skip ?_ | refine awp_exit ?_ | refine awp_reg ttok ?_ | (refine awp_draw ttok ?dr_calm ?_; (case dr_calm => decide +kernel)) | refine awp_condM ?_); simp (maxSteps := 4000000) only [↓reduceIte, Nat.reduceLT, Nat.reduceEqDiff, reduceCtorEq, Nat.reduceAdd, Nat.reduceMul, Int.reduceLE, Int.reduceLT, Int.reduceToNat, Nat.reduceLeDiff, Nat.reduceSub, Int.reduceEq, Nat.reduceBEq, List.replicate, List.set, evB, tyA, d1]; (repeat (with_reducible refine And.intro ?_ ?_; exact sdX)); (with_reducible first | refine awp_id ?_ | refine id_call ?_ | refine id_and ?_ | refine id_ex ?_ | refine id_all ?_ | refine id_nat ?_ | refine id_le ?_))))
      refine awp_loop (X := Nat) (fun k => mkS 43 [(0, i64 L), (1, i64 n), (5, .own 70001 0 W.length), (6, i64 i), (7, .own 6000 0 (wdP L W k 0).length), (8, i64 k)] [(70001, { sz := 1, rows := iis W }), (6000, { sz := 1, rows := iis (wdP L W k 0) })]) (fun k => k ≤ W.length) (fun k => W.length - k) 0 (Nat.zero_le _) (mkS_le rfl ?_ ?_) ?_
      · simp (maxSteps := 4000000) only [↓reduceIte, Nat.reduceLT, Nat.reduceEqDiff, reduceCtorEq, Nat.reduceAdd, Nat.reduceMul, Int.reduceLE, Int.reduceLT, Int.reduceToNat, Nat.reduceLeDiff, Nat.reduceSub, Int.reduceEq, Nat.reduceBEq, List.replicate, List.set, evB, wdP_zero]
        try rfl
      · simp (maxSteps := 4000000) only [↓reduceIte, Nat.reduceLT, Nat.reduceEqDiff, reduceCtorEq, Nat.reduceAdd, Nat.reduceMul, Int.reduceLE, Int.reduceLT, Int.reduceToNat, Nat.reduceLeDiff, Nat.reduceSub, Int.reduceEq, Nat.reduceBEq, List.replicate, List.set, evB, wdP_zero]
        try rfl
      · intro k hk
        by_cases hklt : k < W.length
        · have d2 : decide ((k : Int) < (W.length : Int)) = true := by simpa using hklt
          (repeat (first | refine awp_seq ?_ | refine awp_block ?_ | ((first | refine awp_skip ?_ | refine awp_exit ?_ | refine awp_reg ttok ?_ | (refine awp_draw ttok ?dr_calm ?_; (case dr_calm => decide +kernel)) | refine awp_condM ?_); simp (maxSteps := 4000000) only [↓reduceIte, Nat.reduceLT, Nat.reduceEqDiff, reduceCtorEq, Nat.reduceAdd, Nat.reduceMul, Int.reduceLE, Int.reduceLT, Int.reduceToNat, Nat.reduceLeDiff, Nat.reduceSub, Int.reduceEq, Nat.reduceBEq, List.replicate, List.set, evB, tyA, d2, iis_len]; (repeat (with_reducible refine And.intro ?_ ?_; exact sdX)); (with_reducible first | refine awp_id ?_ | refine id_call ?_ | refine id_and ?_ | refine id_ex ?_ | refine id_all ?_ | refine id_nat ?_ | refine id_le ?_))))
          refine awp_loop (X := Nat) (fun a => mkS 43 [(0, i64 L), (1, i64 n), (5, .own 70001 0 W.length), (6, i64 i), (7, .own 6000 0 (wdP L W k a).length), (8, i64 k), (9, i64 a)] [(70001, { sz := 1, rows := iis W }), (6000, { sz := 1, rows := iis (wdP L W k a) })]) (fun a => a ≤ L) (fun a => L - a) 0 (Nat.zero_le _) (mkS_le rfl ?_ ?_) ?_
          · simp (maxSteps := 4000000) only [↓reduceIte, Nat.reduceLT, Nat.reduceEqDiff, reduceCtorEq, Nat.reduceAdd, Nat.reduceMul, Int.reduceLE, Int.reduceLT, Int.reduceToNat, Nat.reduceLeDiff, Nat.reduceSub, Int.reduceEq, Nat.reduceBEq, List.replicate, List.set, evB]
            try rfl
          · simp (maxSteps := 4000000) only [↓reduceIte, Nat.reduceLT, Nat.reduceEqDiff, reduceCtorEq, Nat.reduceAdd, Nat.reduceMul, Int.reduceLE, Int.reduceLT, Int.reduceToNat, Nat.reduceLeDiff, Nat.reduceSub, Int.reduceEq, Nat.reduceBEq, List.replicate, List.set, evB]
            try rfl
          · intro a ha
            by_cases halt : a < L
            · have d3 : decide ((a : Int) < (L : Int)) = true := by simpa using halt
              have hwi : IntKind.i64.wrap ((a : Int) + 1) = ((a + 1 : Nat) : Int) := i64_in (by omega) (by omega)
              have hg := iis_get hklt
              have hpl := wdP_len L W k a hk ha
              have hkL : k * L ≤ 1048576 * 4 := Nat.mul_le_mul (by omega) hL
              have hst := wdP_step L W k a halt
              have htk : List.take (wdP L W k a).length (wdP L W k a) = wdP L W k a := List.take_of_length_le (Nat.le_refl _)
              generalize wdP L W k a = p at *
              have hwk := hwk k hklt
              generalize W.getD k [] = w at *
              have hap : ints w ++ [[i64 (a : Int)]] = ints (w ++ [(a : Int)]) := by simp [ints]
              have r1 : ∀ d : D, (∀ row ∈ [[d]], row.length = 1) = True := fun d => by simp
              have htl : List.take (w.length + 1) (w ++ [(a : Int)]) = w ++ [(a : Int)] := List.take_of_length_le (by simp)
              have hlp : (w ++ [(a : Int)]).length = w.length + 1 := by simp
              have hia : iis p ++ [[D.sl false (ints (w ++ [(a : Int)]))]] = iis (p ++ [w ++ [(a : Int)]]) := by simp [iis]
              have hl1 : (p ++ [w ++ [(a : Int)]]).length = k * L + a + 1 := by simp [hpl]
              rw [hpl] at htk
              (repeat (first | refine awp_seq ?_ | refine awp_block ?_ | ((first | refine awp_skip ?_ | refine awp_exit ?_ | refine awp_reg ttok ?_ | (refine awp_draw ttok ?dr_calm ?_; (case dr_calm => decide +kernel)) | refine awp_condM ?_); simp (maxSteps := 4000000) only [↓reduceIte, Nat.reduceLT, Nat.reduceEqDiff, reduceCtorEq, Nat.reduceAdd, Nat.reduceMul, Int.reduceLE, Int.reduceLT, Int.reduceToNat, Nat.reduceLeDiff, Nat.reduceSub, Int.reduceEq, Nat.reduceBEq, List.replicate, List.set, evB, tyA, d3, iis_len, hg, hpl, iis_take, htk, iis_row, List.take_length, hap, ints_take, htl, ints_len, r1, hwi, hlp, hia]; (repeat (with_reducible refine And.intro ?_ ?_; exact sdX)); (with_reducible first | refine awp_id ?_ | refine id_call ?_ | refine id_and ?_ | refine id_ex ?_ | refine id_all ?_ | refine id_nat ?_ | refine id_le ?_))))
              refine ⟨a + 1, by omega, by omega, mkS_le rfl ?_ ?_⟩
              · simp (maxSteps := 4000000) only [↓reduceIte, Nat.reduceLT, Nat.reduceEqDiff, reduceCtorEq, Nat.reduceAdd, Nat.reduceMul, Int.reduceLE, Int.reduceLT, Int.reduceToNat, Nat.reduceLeDiff, Nat.reduceSub, Int.reduceEq, Nat.reduceBEq, List.replicate, List.set, evB, hst, hl1]
              · simp (maxSteps := 4000000) only [↓reduceIte, Nat.reduceLT, Nat.reduceEqDiff, reduceCtorEq, Nat.reduceAdd, Nat.reduceMul, Int.reduceLE, Int.reduceLT, Int.reduceToNat, Nat.reduceLeDiff, Nat.reduceSub, Int.reduceEq, Nat.reduceBEq, List.replicate, List.set, evB, hst, hia, htk]
            · have d3 : decide ((a : Int) < (L : Int)) = false := by simpa using halt
              obtain rfl : a = L := by omega
              have hwi : IntKind.i64.wrap ((k : Int) + 1) = ((k + 1 : Nat) : Int) := i64_in (by omega) (by omega)
              (repeat (first | refine awp_seq ?_ | refine awp_block ?_ | ((first | refine awp_skip ?_ | refine awp_exit ?_ | refine awp_reg ttok ?_ | (refine awp_draw ttok ?dr_calm ?_; (case dr_calm => decide +kernel)) | refine awp_condM ?_); simp (maxSteps := 4000000) only [↓reduceIte, Nat.reduceLT, Nat.reduceEqDiff, reduceCtorEq, Nat.reduceAdd, Nat.reduceMul, Int.reduceLE, Int.reduceLT, Int.reduceToNat, Nat.reduceLeDiff, Nat.reduceSub, Int.reduceEq, Nat.reduceBEq, List.replicate, List.set, evB, tyA, d3, hwi]; (repeat (with_reducible refine And.intro ?_ ?_; exact sdX)); (with_reducible first | refine awp_id ?_ | refine id_call ?_ | refine id_and ?_ | refine id_ex ?_ | refine id_all ?_ | refine id_nat ?_ | refine id_le ?_))))
              refine ⟨k + 1, by omega, by omega, mkS_le rfl ?_ ?_⟩
              · simp (maxSteps := 4000000) only [↓reduceIte, Nat.reduceLT, Nat.reduceEqDiff, reduceCtorEq, Nat.reduceAdd, Nat.reduceMul, Int.reduceLE, Int.reduceLT, Int.reduceToNat, Nat.reduceLeDiff, Nat.reduceSub, Int.reduceEq, Nat.reduceBEq, List.replicate, List.set, evB, wdP_next a W k hklt]
              · simp (maxSteps := 4000000) only [↓reduceIte, Nat.reduceLT, Nat.reduceEqDiff, reduceCtorEq, Nat.reduceAdd, Nat.reduceMul, Int.reduceLE, Int.reduceLT, Int.reduceToNat, Nat.reduceLeDiff, Nat.reduceSub, Int.reduceEq, Nat.reduceBEq, List.replicate, List.set, evB, wdP_next a W k hklt]
        · have d2 : decide ((k : Int) < (W.length : Int)) = false := by simpa using hklt
          obtain rfl : k = W.length := by omega
          have hwi : IntKind.i64.wrap ((i : Int) + 1) = ((i + 1 : Nat) : Int) := i64_in (by omega) (by omega)
          rw [hall]
          ((repeat (first | refine awp_seq ?_ | refine awp_block ?_)); ((first | refine awp_skip ?_ | refine awp_exit ?_ | refine awp_reg ttok ?_ | (refine awp_draw ttok ?dr_calm ?_; (case dr_calm => decide +kernel)) | refine awp_condM ?_); simp (maxSteps := 4000000) only [↓reduceIte, Nat.reduceLT, Nat.reduceEqDiff, reduceCtorEq, Nat.reduceAdd, Nat.reduceMul, Int.reduceLE, Int.reduceLT, Int.reduceToNat, Nat.reduceLeDiff, Nat.reduceSub, Int.reduceEq, Nat.reduceBEq, List.replicate, List.set, evB, tyA, d2, iis_len]; (repeat (with_reducible refine And.intro ?_ ?_; exact sdX)); (with_reducible first | refine awp_id ?_ | refine id_call ?_ | refine id_and ?_ | refine id_ex ?_ | refine id_all ?_ | refine id_nat ?_ | refine id_le ?_)))
          ((repeat (first | refine awp_seq ?_ | refine awp_block ?_)); ((first | refine awp_skip ?_ | refine awp_exit ?_ | refine awp_reg ttok ?_ | (refine awp_draw ttok ?dr_calm ?_; (case dr_calm => decide +kernel)) | refine awp_condM ?_); simp (maxSteps := 4000000) only [↓reduceIte, Nat.reduceLT, Nat.reduceEqDiff, reduceCtorEq, Nat.reduceAdd, Nat.reduceMul, Int.reduceLE, Int.reduceLT, Int.reduceToNat, Nat.reduceLeDiff, Nat.reduceSub, Int.reduceEq, Nat.reduceBEq, List.replicate, List.set, evB, tyA]; (repeat (with_reducible refine And.intro ?_ ?_; exact sdX)); (with_reducible first | refine awp_id ?_ | refine id_call ?_ | refine id_and ?_ | refine id_ex ?_ | refine id_all ?_ | refine id_nat ?_ | refine id_le ?_)))
          ((repeat (first | refine awp_seq ?_ | refine awp_block ?_)); ((first | refine awp_skip ?_ | refine awp_exit ?_ | refine awp_reg ttok ?_ | (refine awp_draw ttok ?dr_calm ?_; (case dr_calm => decide +kernel)) | refine awp_condM ?_); simp (maxSteps := 4000000) only [↓reduceIte, Nat.reduceLT, Nat.reduceEqDiff, reduceCtorEq, Nat.reduceAdd, Nat.reduceMul, Int.reduceLE, Int.reduceLT, Int.reduceToNat, Nat.reduceLeDiff, Nat.reduceSub, Int.reduceEq, Nat.reduceBEq, List.replicate, List.set, evB, tyA]; (repeat (with_reducible refine And.intro ?_ ?_; exact sdX)); (with_reducible first | refine awp_id ?_ | refine id_call ?_ | refine id_and ?_ | refine id_ex ?_ | refine id_all ?_ | refine id_nat ?_ | refine id_le ?_)))
          refine awp_swap 6000 70001 ?_
          (repeat (first | refine awp_seq ?_ | refine awp_block ?_ | ((first | refine awp_skip ?_ | refine awp_exit ?_ | refine awp_reg ttok ?_ | (refine awp_draw ttok ?dr_calm ?_; (case dr_calm => decide +kernel)) | refine awp_condM ?_); simp (maxSteps := 4000000) only [↓reduceIte, Nat.reduceLT, Nat.reduceEqDiff, reduceCtorEq, Nat.reduceAdd, Nat.reduceMul, Int.reduceLE, Int.reduceLT, Int.reduceToNat, Nat.reduceLeDiff, Nat.reduceSub, Int.reduceEq, Nat.reduceBEq, List.replicate, List.set, evB, tyA, hwi]; (repeat (with_reducible refine And.intro ?_ ?_; exact sdX)); (with_reducible first | refine awp_id ?_ | refine id_call ?_ | refine id_and ?_ | refine id_ex ?_ | refine id_all ?_ | refine id_nat ?_ | refine id_le ?_))))
          refine ⟨i + 1, by omega, by omega, mkS_le rfl ?_ ?_⟩
          · simp (maxSteps := 4000000) only [↓reduceIte, Nat.reduceLT, Nat.reduceEqDiff, reduceCtorEq, Nat.reduceAdd, Nat.reduceMul, Int.reduceLE, Int.reduceLT, Int.reduceToNat, Nat.reduceLeDiff, Nat.reduceSub, Int.reduceEq, Nat.reduceBEq, List.replicate, List.set, evB]
            try rfl
          · simp (maxSteps := 4000000) only [↓reduceIte, Nat.reduceLT, Nat.reduceEqDiff, reduceCtorEq, Nat.reduceAdd, Nat.reduceMul, Int.reduceLE, Int.reduceLT, Int.reduceToNat, Nat.reduceLeDiff, Nat.reduceSub, Int.reduceEq, Nat.reduceBEq, List.replicate, List.set, evB]
            try rfl
    · have d1 : decide ((i : Int) < (n : Int)) = false := by simpa using hlt
      obtain rfl : i = n := by omega
      (repeat (first | refine awp_seq ?_ | refine awp_block ?_ | ((first | refine awp_skip ?_ | refine awp_exit ?_ | refine awp_reg ttok ?_ | (refine awp_draw ttok ?dr_calm ?_; (case dr_calm => decide +kernel)) | refine awp_condM ?_); simp (maxSteps := 4000000) only [↓reduceIte, Nat.reduceLT, Nat.reduceEqDiff, reduceCtorEq, Nat.reduceAdd, Nat.reduceMul, Int.reduceLE, Int.reduceLT, Int.reduceToNat, Nat.reduceLeDiff, Nat.reduceSub, Int.reduceEq, Nat.reduceBEq, List.replicate, List.set, evB, tyA, d1]; (repeat (with_reducible refine And.intro ?_ ?_; exact sdX)); (with_reducible first | refine awp_id ?_ | refine id_call ?_ | refine id_and ?_ | refine id_ex ?_ | refine id_all ?_ | refine id_nat ?_ | refine id_le ?_))))
      refine awp_pure 4 (d := .own 70001 0 (wordsL L i).length) evX (by simp (maxSteps := 4000000) only [↓reduceIte, Nat.reduceLT, Nat.reduceEqDiff, reduceCtorEq, Nat.reduceAdd, Nat.reduceMul, Int.reduceLE, Int.reduceLT, Int.reduceToNat, Nat.reduceLeDiff, Nat.reduceSub, Int.reduceEq, Nat.reduceBEq, List.replicate, List.set, evB]; rfl) (by simp (maxSteps := 4000000) only [↓reduceIte, Nat.reduceLT, Nat.reduceEqDiff, reduceCtorEq, Nat.reduceAdd, Nat.reduceMul, Int.reduceLE, Int.reduceLT, Int.reduceToNat, Nat.reduceLeDiff, Nat.reduceSub, Int.reduceEq, Nat.reduceBEq, List.replicate, List.set, evB, iis_len]) ?_
      have hft : List.take (wordsL L i).length (wordsL L i) = wordsL L i := List.take_of_length_le (Nat.le_refl _)
      refine awp_ret (ends_plain (.inr rfl) rfl ?_)
      simp (maxSteps := 4000000) only [↓reduceIte, Nat.reduceLT, Nat.reduceEqDiff, reduceCtorEq, Nat.reduceAdd, Nat.reduceMul, Int.reduceLE, Int.reduceLT, Int.reduceToNat, Nat.reduceLeDiff, Nat.reduceSub, Int.reduceEq, Nat.reduceBEq, List.replicate, List.set, evB, iis_take, hft]
def uptoP (L : Nat) : Nat → List (List Int)
  | 0 => []
  | i + 1 => uptoP L i ++ wordsL L i
theorem uptoP_all (L : Nat) : ∀ n, uptoP L (n + 1) = uptoL L n
  | 0 => by simp [uptoP, uptoL]
  | n + 1 => by rw [uptoP, uptoP_all L n, uptoL]
theorem uptoP_len {L n : Nat} (hL : L ≤ 4) (hn : n ≤ 10) : ∀ i, i ≤ n + 1 → (uptoP L i).length ≤ i * 1048576
  | 0, _ => by simp [uptoP]
  | i + 1, hi => by
    have := uptoP_len hL hn i (by omega)
    have := wordsL_bound hL hn (show i ≤ n by omega)
    rw [uptoP, List.length_append]; omega
set_option maxRecDepth 20000 in
set_option maxHeartbeats 16000000 in
theorem c_Upto (L n : Nat) (hL : L ≤ 4) (hn : n ≤ 10) : Contract Try.prog 12 [i64 L, i64 n] (.sl false (iis (uptoL L n))) [] := by
  refine contract_of_awp (rs := [4]) Try.func12 rfl Try.ntmps12 (by simp) rfl fun E => ?_
  (repeat (first | refine awp_seq ?_ | refine awp_block ?_ | ((first | refine awp_skip ?_ | refine awp_exit ?_ | refine awp_reg ttok ?_ | (refine awp_draw ttok ?dr_calm ?_; (case dr_calm => decide +kernel)) | refine awp_condM ?_); simp (maxSteps := 4000000) only [↓reduceIte, Nat.reduceLT, Nat.reduceEqDiff, reduceCtorEq, Nat.reduceAdd, Nat.reduceMul, Int.reduceLE, Int.reduceLT, Int.reduceToNat, Nat.reduceLeDiff, Nat.reduceSub, Int.reduceEq, Nat.reduceBEq, List.replicate, List.set, evB, tyA]; (repeat (with_reducible refine And.intro ?_ ?_; exact sdX)); (with_reducible first | refine awp_id ?_ | refine id_call ?_ | refine id_and ?_ | refine id_ex ?_ | refine id_all ?_ | refine id_nat ?_ | refine id_le ?_))))
  refine awp_loop (X := Nat) (fun i => mkS 19 [(0, i64 L), (1, i64 n), (5, .own 2000 0 (uptoP L i).length), (6, i64 i)] [(2000, { sz := 1, rows := iis (uptoP L i) })]) (fun i => i ≤ n + 1) (fun i => n + 1 - i) 0 (Nat.zero_le _) (mkS_le rfl ?_ ?_) ?_
  · simp (maxSteps := 4000000) only [↓reduceIte, Nat.reduceLT, Nat.reduceEqDiff, reduceCtorEq, Nat.reduceAdd, Nat.reduceMul, Int.reduceLE, Int.reduceLT, Int.reduceToNat, Nat.reduceLeDiff, Nat.reduceSub, Int.reduceEq, Nat.reduceBEq, List.replicate, List.set, evB]
    exact ⟨rfl, rfl⟩
  · simp (maxSteps := 4000000) only [↓reduceIte, Nat.reduceLT, Nat.reduceEqDiff, reduceCtorEq, Nat.reduceAdd, Nat.reduceMul, Int.reduceLE, Int.reduceLT, Int.reduceToNat, Nat.reduceLeDiff, Nat.reduceSub, Int.reduceEq, Nat.reduceBEq, List.replicate, List.set, evB]
    try rfl
  · intro i hi
    have hpl := uptoP_len hL hn i hi
    have hall := uptoP_all L n
    by_cases hlt : i ≤ n
    · have d1 : decide ((i : Int) ≤ (n : Int)) = true := by simpa using hlt
      have hwi : IntKind.i64.wrap ((i : Int) + 1) = ((i + 1 : Nat) : Int) := i64_in (by omega) (by omega)
      have hwl := wordsL_bound hL hn hlt
      have hnx : uptoP L (i + 1) = uptoP L i ++ wordsL L i := rfl
      have hc := c_Words L i hL (by omega)
      generalize wordsL L i = W at *
      generalize uptoP L i = p at *
      (repeat (first | refine awp_seq ?_ | refine awp_block ?_ | ((first | refine awp_skip ?_ | refine awp_exit ?_ | refine awp_reg ttok ?_ | (refine awp_draw ttok ?dr_calm ?_; (case dr_calm => decide +kernel)) | refine awp_condM ?_); simp (maxSteps := 4000000) only [↓reduceIte, Nat.reduceLT, Nat.reduceEqDiff, reduceCtorEq, Nat.reduceAdd, Nat.reduceMul, Int.reduceLE, Int.reduceLT, Int.reduceToNat, Nat.reduceLeDiff, Nat.reduceSub, Int.reduceEq, Nat.reduceBEq, List.replicate, List.set, evB, tyA, d1]; (repeat (with_reducible refine And.intro ?_ ?_; exact sdX)); (with_reducible first | refine awp_id ?_ | refine id_call ?_ | refine id_and ?_ | refine id_ex ?_ | refine id_all ?_ | refine id_nat ?_ | refine id_le ?_))))
      refine callVC_mk fnok44 hc rfl ?_
      have hll : (p ++ W).length = p.length + W.length := by simp
      simp (maxSteps := 4000000) only [↓reduceIte, Nat.reduceLT, Nat.reduceEqDiff, reduceCtorEq, Nat.reduceAdd, Nat.reduceMul, Int.reduceLE, Int.reduceLT, Int.reduceToNat, Nat.reduceLeDiff, Nat.reduceSub, Int.reduceEq, Nat.reduceBEq, List.replicate, List.set, evB, tyA, iis_len, iis_row, iis_take, List.take_length, iis_app]
      (repeat (with_reducible refine And.intro ?_ ?_; exact sdX))
      (repeat (first | refine awp_seq ?_ | refine awp_block ?_ | ((first | refine awp_skip ?_ | refine awp_exit ?_ | refine awp_reg ttok ?_ | (refine awp_draw ttok ?dr_calm ?_; (case dr_calm => decide +kernel)) | refine awp_condM ?_); simp (maxSteps := 4000000) only [↓reduceIte, Nat.reduceLT, Nat.reduceEqDiff, reduceCtorEq, Nat.reduceAdd, Nat.reduceMul, Int.reduceLE, Int.reduceLT, Int.reduceToNat, Nat.reduceLeDiff, Nat.reduceSub, Int.reduceEq, Nat.reduceBEq, List.replicate, List.set, evB, tyA, hwi]; (repeat (with_reducible refine And.intro ?_ ?_; exact sdX)); (with_reducible first | refine awp_id ?_ | refine id_call ?_ | refine id_and ?_ | refine id_ex ?_ | refine id_all ?_ | refine id_nat ?_ | refine id_le ?_))))
      refine ⟨i + 1, by omega, by omega, mkS_le rfl ?_ ?_⟩
      · simp (maxSteps := 4000000) only [↓reduceIte, Nat.reduceLT, Nat.reduceEqDiff, reduceCtorEq, Nat.reduceAdd, Nat.reduceMul, Int.reduceLE, Int.reduceLT, Int.reduceToNat, Nat.reduceLeDiff, Nat.reduceSub, Int.reduceEq, Nat.reduceBEq, List.replicate, List.set, evB, hnx, hll]
      · simp (maxSteps := 4000000) only [↓reduceIte, Nat.reduceLT, Nat.reduceEqDiff, reduceCtorEq, Nat.reduceAdd, Nat.reduceMul, Int.reduceLE, Int.reduceLT, Int.reduceToNat, Nat.reduceLeDiff, Nat.reduceSub, Int.reduceEq, Nat.reduceBEq, List.replicate, List.set, evB, hnx]
    · have d1 : decide ((i : Int) ≤ (n : Int)) = false := by simpa using hlt
      obtain rfl : i = n + 1 := by omega
      rw [hall] at hpl ⊢
      (repeat (first | refine awp_seq ?_ | refine awp_block ?_ | ((first | refine awp_skip ?_ | refine awp_exit ?_ | refine awp_reg ttok ?_ | (refine awp_draw ttok ?dr_calm ?_; (case dr_calm => decide +kernel)) | refine awp_condM ?_); simp (maxSteps := 4000000) only [↓reduceIte, Nat.reduceLT, Nat.reduceEqDiff, reduceCtorEq, Nat.reduceAdd, Nat.reduceMul, Int.reduceLE, Int.reduceLT, Int.reduceToNat, Nat.reduceLeDiff, Nat.reduceSub, Int.reduceEq, Nat.reduceBEq, List.replicate, List.set, evB, tyA, d1]; (repeat (with_reducible refine And.intro ?_ ?_; exact sdX)); (with_reducible first | refine awp_id ?_ | refine id_call ?_ | refine id_and ?_ | refine id_ex ?_ | refine id_all ?_ | refine id_nat ?_ | refine id_le ?_))))
      refine awp_pure 4 (d := .own 2000 0 (uptoL L n).length) evX (by simp (maxSteps := 4000000) only [↓reduceIte, Nat.reduceLT, Nat.reduceEqDiff, reduceCtorEq, Nat.reduceAdd, Nat.reduceMul, Int.reduceLE, Int.reduceLT, Int.reduceToNat, Nat.reduceLeDiff, Nat.reduceSub, Int.reduceEq, Nat.reduceBEq, List.replicate, List.set, evB]; rfl) (by simp (maxSteps := 4000000) only [↓reduceIte, Nat.reduceLT, Nat.reduceEqDiff, reduceCtorEq, Nat.reduceAdd, Nat.reduceMul, Int.reduceLE, Int.reduceLT, Int.reduceToNat, Nat.reduceLeDiff, Nat.reduceSub, Int.reduceEq, Nat.reduceBEq, List.replicate, List.set, evB, iis_len]) ?_
      refine awp_ret (ends_plain (.inr rfl) rfl ?_)
      simp (maxSteps := 4000000) only [↓reduceIte, Nat.reduceLT, Nat.reduceEqDiff, reduceCtorEq, Nat.reduceAdd, Nat.reduceMul, Int.reduceLE, Int.reduceLT, Int.reduceToNat, Nat.reduceLeDiff, Nat.reduceSub, Int.reduceEq, Nat.reduceBEq, List.replicate, List.set, evB, iis_take, List.take_length]
def labP (z : Int) : List Lab := fix5.take (labD z)
theorem labP_len (z : Int) : (labP z).length = labD z := by
  have := labD_le z
  simp [labP, fix5]; omega
theorem c_RAny (f : Bool) (l : List (Int × Int × Int)) (fin z0 z1 : Int) (hl : l.length ≤ 9223372036854775807) :
    Contract Try.prog 17 [.sl f (tri l), i64 fin, .agg [i64 z0, i64 z1]] (.tup [dfaD (labP z0).length (startD z1) (finD fin (numD z1)) (nextD (labP z0).length (numD z1) l), .sl false (tri (labP z0))]) [] := by
  refine contract_of_awpV ttok (rs := [.cell 6 31, .tmp 7]) Try.func17 rfl Try.ntmps17 (by simp) rfl fun E => ?_
  have hc := c_Dfa f l fin z0 z1 hl
  have hL := labD_le z0
  have hLa := c_Labels (labD z0) (by omega)
  rw [show min (labD z0) 5 = labD z0 by omega] at hLa
  have e : fix5.take (labD z0) = labP z0 := rfl
  rw [e] at hLa
  rw [labP_len]
  generalize labP z0 = lb at *
  generalize labD z0 = L at *
  (repeat (first | refine awp_seq ?_ | refine awp_block ?_ | ((first | refine awp_skip ?_ | refine awp_exit ?_ | refine awp_reg ttok ?_ | (refine awp_draw ttok ?dr_calm ?_; (case dr_calm => decide +kernel)) | refine awp_condM ?_); simp (maxSteps := 4000000) only [↓reduceIte, Nat.reduceLT, Nat.reduceEqDiff, reduceCtorEq, Nat.reduceAdd, Nat.reduceMul, Int.reduceLE, Int.reduceLT, Int.reduceToNat, Nat.reduceLeDiff, Nat.reduceSub, Int.reduceEq, Nat.reduceBEq, List.replicate, List.set, evB, tyA]; (repeat (with_reducible refine And.intro ?_ ?_; exact sdX)); (with_reducible first | refine awp_id ?_ | refine id_call ?_ | refine id_and ?_ | refine id_ex ?_ | refine id_all ?_ | refine id_nat ?_ | refine id_le ?_))))
  refine callVC_mk fnok51 hc rfl ?_
  simp (maxSteps := 4000000) only [↓reduceIte, Nat.reduceLT, Nat.reduceEqDiff, reduceCtorEq, Nat.reduceAdd, Nat.reduceMul, Int.reduceLE, Int.reduceLT, Int.reduceToNat, Nat.reduceLeDiff, Nat.reduceSub, Int.reduceEq, Nat.reduceBEq, List.replicate, List.set, evB, tyA, dfaD]
  (repeat (with_reducible refine And.intro ?_ ?_; exact sdX))
  (repeat (first | refine awp_seq ?_ | refine awp_block ?_ | ((first | refine awp_skip ?_ | refine awp_exit ?_ | refine awp_reg ttok ?_ | (refine awp_draw ttok ?dr_calm ?_; (case dr_calm => decide +kernel)) | refine awp_condM ?_); simp (maxSteps := 4000000) only [↓reduceIte, Nat.reduceLT, Nat.reduceEqDiff, reduceCtorEq, Nat.reduceAdd, Nat.reduceMul, Int.reduceLE, Int.reduceLT, Int.reduceToNat, Nat.reduceLeDiff, Nat.reduceSub, Int.reduceEq, Nat.reduceBEq, List.replicate, List.set, evB, tyA]; (repeat (with_reducible refine And.intro ?_ ?_; exact sdX)); (with_reducible first | refine awp_id ?_ | refine id_call ?_ | refine id_and ?_ | refine id_ex ?_ | refine id_all ?_ | refine id_nat ?_ | refine id_le ?_))))
  refine awp_drawG ttok ((0, none) :: (1, none) :: (2, none) :: (3, some [0]) :: (4, some []) :: (5, none) :: []) (0 :: 1 :: 2 :: 3 :: 4 :: 5 :: []) (0 :: 1 :: 2 :: 3 :: 4 :: 5 :: []) (by decide +kernel) fun O hO => ?_; simp only [OpsAre, Nat.reduceAdd, and_true, List.toList_toArray, List.append_eq, List.cons_append, List.nil_append] at hO; simp (maxSteps := 4000000) only [↓reduceIte, Nat.reduceLT, Nat.reduceEqDiff, reduceCtorEq, Nat.reduceAdd, Nat.reduceMul, Int.reduceLE, Int.reduceLT, Int.reduceToNat, Nat.reduceLeDiff, Nat.reduceSub, Int.reduceEq, Nat.reduceBEq, List.replicate, List.set, evB, tyA, hO, ]; (repeat (with_reducible refine And.intro ?_ ?_; exact sdX))
  refine callVC_mk fnok52 hLa rfl ?_
  simp (maxSteps := 4000000) only [↓reduceIte, Nat.reduceLT, Nat.reduceEqDiff, reduceCtorEq, Nat.reduceAdd, Nat.reduceMul, Int.reduceLE, Int.reduceLT, Int.reduceToNat, Nat.reduceLeDiff, Nat.reduceSub, Int.reduceEq, Nat.reduceBEq, List.replicate, List.set, evB, tyA, hO]
  (repeat (with_reducible refine And.intro ?_ ?_; exact sdX))
  (repeat (first | refine awp_seq ?_ | refine awp_block ?_ | ((first | refine awp_skip ?_ | refine awp_exit ?_ | refine awp_reg ttok ?_ | (refine awp_draw ttok ?dr_calm ?_; (case dr_calm => decide +kernel)) | refine awp_condM ?_); simp (maxSteps := 4000000) only [↓reduceIte, Nat.reduceLT, Nat.reduceEqDiff, reduceCtorEq, Nat.reduceAdd, Nat.reduceMul, Int.reduceLE, Int.reduceLT, Int.reduceToNat, Nat.reduceLeDiff, Nat.reduceSub, Int.reduceEq, Nat.reduceBEq, List.replicate, List.set, evB, tyA]; (repeat (with_reducible refine And.intro ?_ ?_; exact sdX)); (with_reducible first | refine awp_id ?_ | refine id_call ?_ | refine id_and ?_ | refine id_ex ?_ | refine id_all ?_ | refine id_nat ?_ | refine id_le ?_))))
  exact awp_ret (endsV [] (.inr rfl) (by simp (maxSteps := 4000000) only [↓reduceIte, Nat.reduceLT, Nat.reduceEqDiff, reduceCtorEq, Nat.reduceAdd, Nat.reduceMul, Int.reduceLE, Int.reduceLT, Int.reduceToNat, Nat.reduceLeDiff, Nat.reduceSub, Int.reduceEq, Nat.reduceBEq, List.replicate, List.set, evB, tyA]; rfl) trivial evX)
set_option maxRecDepth 20000 in
set_option maxHeartbeats 32000000 in
theorem c_HideOf (f : Bool) (l : List (Int × Int × Int)) (fin z0 z1 z2 : Int) (hl : l.length ≤ 9223372036854775807) :
    Contract Try.prog 4 [.sl f (tri l), i64 fin, .agg [i64 z0, i64 z1, i64 z2]] (bo true) [] := by
  refine contract_of_awp (rs := [6]) Try.func4 rfl Try.ntmps4 (by simp) rfl fun E => ?_
  have hAny := c_RAny f l fin z0 z1 hl
  have hL := labD_le z0
  rw [← labP_len] at hL
  have hk := numD_le z1
  have hst := startD_lt z1
  have hok := nextD_ok (L := (labP z0).length) hk.1 l
  have hF := finD_len fin (numD z1)
  generalize nextD (labP z0).length (numD z1) l = N at *
  generalize labP z0 = lb at *
  generalize finD fin (numD z1) = F at *
  generalize numD z1 = k at *
  generalize startD z1 = st at *
  have hLv := c_RLive hok st F hF hL hk
  have hgl := bos_get (l := liveL F N) (i := st) (by rw [liveL_len]; omega)
  have hll := liveL_len F N
  obtain ⟨pt, hpt, hptw0⟩ := and_low z2 3 (by decide)
  have hptw : IntKind.i64.wrap ((BitVec.ofInt IntKind.i64.bits z2 &&& BitVec.ofInt IntKind.i64.bits 3).toNat : Int) = (pt : Int) := hptw0
  have hN := c_HNfa hok (by omega) (by omega) st F hF false lb (pt : Int) (by omega)
  have hsay := hide_says hok (by omega) (by omega) st hst F hF (pt : Int)
  (repeat (first | refine awp_seq ?_ | refine awp_block ?_ | ((first | refine awp_skip ?_ | refine awp_exit ?_ | refine awp_reg ttok ?_ | (refine awp_draw ttok ?dr_calm ?_; (case dr_calm => decide +kernel)) | refine awp_condM ?_); simp (maxSteps := 4000000) only [↓reduceIte, Nat.reduceLT, Nat.reduceEqDiff, reduceCtorEq, Nat.reduceAdd, Nat.reduceMul, Int.reduceLE, Int.reduceLT, Int.reduceToNat, Nat.reduceLeDiff, Nat.reduceSub, Int.reduceEq, Nat.reduceBEq, List.replicate, List.set, evB, tyA]; (repeat (with_reducible refine And.intro ?_ ?_; exact sdX)); (with_reducible first | refine awp_id ?_ | refine id_call ?_ | refine id_and ?_ | refine id_ex ?_ | refine id_all ?_ | refine id_nat ?_ | refine id_le ?_))))
  refine callVC_mk fnok17 hAny rfl ?_
  simp (maxSteps := 4000000) only [↓reduceIte, Nat.reduceLT, Nat.reduceEqDiff, reduceCtorEq, Nat.reduceAdd, Nat.reduceMul, Int.reduceLE, Int.reduceLT, Int.reduceToNat, Nat.reduceLeDiff, Nat.reduceSub, Int.reduceEq, Nat.reduceBEq, List.replicate, List.set, evB, tyA, dfaD]
  (repeat (with_reducible refine And.intro ?_ ?_; exact sdX))
  (repeat (first | refine awp_seq ?_ | refine awp_block ?_ | ((first | refine awp_skip ?_ | refine awp_exit ?_ | refine awp_reg ttok ?_ | (refine awp_draw ttok ?dr_calm ?_; (case dr_calm => decide +kernel)) | refine awp_condM ?_); simp (maxSteps := 4000000) only [↓reduceIte, Nat.reduceLT, Nat.reduceEqDiff, reduceCtorEq, Nat.reduceAdd, Nat.reduceMul, Int.reduceLE, Int.reduceLT, Int.reduceToNat, Nat.reduceLeDiff, Nat.reduceSub, Int.reduceEq, Nat.reduceBEq, List.replicate, List.set, evB, tyA, hptw]; (repeat (with_reducible refine And.intro ?_ ?_; exact sdX)); (with_reducible first | refine awp_id ?_ | refine id_call ?_ | refine id_and ?_ | refine id_ex ?_ | refine id_all ?_ | refine id_nat ?_ | refine id_le ?_))))
  rcases hsay with ⟨hv, j, H, Y, hj1, hj2, hY, hH, hOf, hlang, hword, -⟩ | ⟨hv, hOf⟩
  rotate_left
  · rw [hv] at hgl
    have k1 : ((13 : Int) == 13) = true := rfl
    refine callVC_mk fnok18 (hOf false) rfl ?_
    unfold noDfa
    simp (maxSteps := 4000000) only [↓reduceIte, Nat.reduceLT, Nat.reduceEqDiff, reduceCtorEq, Nat.reduceAdd, Nat.reduceMul, Int.reduceLE, Int.reduceLT, Int.reduceToNat, Nat.reduceLeDiff, Nat.reduceSub, Int.reduceEq, Nat.reduceBEq, List.replicate, List.set, evB, tyA]
    (repeat (with_reducible refine And.intro ?_ ?_; exact sdX))
    (repeat (first | refine awp_seq ?_ | refine awp_block ?_ | ((first | refine awp_skip ?_ | refine awp_exit ?_ | refine awp_reg ttok ?_ | (refine awp_draw ttok ?dr_calm ?_; (case dr_calm => decide +kernel)) | refine awp_condM ?_); simp (maxSteps := 4000000) only [↓reduceIte, Nat.reduceLT, Nat.reduceEqDiff, reduceCtorEq, Nat.reduceAdd, Nat.reduceMul, Int.reduceLE, Int.reduceLT, Int.reduceToNat, Nat.reduceLeDiff, Nat.reduceSub, Int.reduceEq, Nat.reduceBEq, List.replicate, List.set, evB, tyA]; (repeat (with_reducible refine And.intro ?_ ?_; exact sdX)); (with_reducible first | refine awp_id ?_ | refine id_call ?_ | refine id_and ?_ | refine id_ex ?_ | refine id_all ?_ | refine id_nat ?_ | refine id_le ?_))))
    refine callVC_mk fnok19 hN rfl ?_
    simp (maxSteps := 4000000) only [↓reduceIte, Nat.reduceLT, Nat.reduceEqDiff, reduceCtorEq, Nat.reduceAdd, Nat.reduceMul, Int.reduceLE, Int.reduceLT, Int.reduceToNat, Nat.reduceLeDiff, Nat.reduceSub, Int.reduceEq, Nat.reduceBEq, List.replicate, List.set, evB, tyA, nfaD]
    (repeat (with_reducible refine And.intro ?_ ?_; exact sdX))
    (repeat (first | refine awp_seq ?_ | refine awp_block ?_ | ((first | refine awp_skip ?_ | refine awp_exit ?_ | refine awp_reg ttok ?_ | (refine awp_draw ttok ?dr_calm ?_; (case dr_calm => decide +kernel)) | refine awp_condM ?_); simp (maxSteps := 4000000) only [↓reduceIte, Nat.reduceLT, Nat.reduceEqDiff, reduceCtorEq, Nat.reduceAdd, Nat.reduceMul, Int.reduceLE, Int.reduceLT, Int.reduceToNat, Nat.reduceLeDiff, Nat.reduceSub, Int.reduceEq, Nat.reduceBEq, List.replicate, List.set, evB, tyA]; (repeat (with_reducible refine And.intro ?_ ?_; exact sdX)); (with_reducible first | refine awp_id ?_ | refine id_call ?_ | refine id_and ?_ | refine id_ex ?_ | refine id_all ?_ | refine id_nat ?_ | refine id_le ?_))))
    refine awp_drawG ttok ((0, none) :: (2, none) :: (3, none) :: (1, some [2, 3]) :: (4, none) :: (5, none) :: (6, none) :: []) ([]) ([]) (by decide +kernel) fun O hO => ?_; simp only [OpsAre, Nat.reduceAdd, and_true, List.toList_toArray, List.append_eq, List.cons_append, List.nil_append] at hO; simp (maxSteps := 4000000) only [↓reduceIte, Nat.reduceLT, Nat.reduceEqDiff, reduceCtorEq, Nat.reduceAdd, Nat.reduceMul, Int.reduceLE, Int.reduceLT, Int.reduceToNat, Nat.reduceLeDiff, Nat.reduceSub, Int.reduceEq, Nat.reduceBEq, List.replicate, List.set, evB, tyA, hO, ]; (repeat (with_reducible refine And.intro ?_ ?_; exact sdX))
    refine callVC_mk fnok20 hLv rfl ?_
    simp (maxSteps := 4000000) only [↓reduceIte, Nat.reduceLT, Nat.reduceEqDiff, reduceCtorEq, Nat.reduceAdd, Nat.reduceMul, Int.reduceLE, Int.reduceLT, Int.reduceToNat, Nat.reduceLeDiff, Nat.reduceSub, Int.reduceEq, Nat.reduceBEq, List.replicate, List.set, evB, tyA, hO, hgl, bos_len, hll, hF]
    (repeat (with_reducible refine And.intro ?_ ?_; exact sdX))
    (repeat (first | refine awp_seq ?_ | refine awp_block ?_ | ((first | refine awp_skip ?_ | refine awp_exit ?_ | refine awp_reg ttok ?_ | (refine awp_draw ttok ?dr_calm ?_; (case dr_calm => decide +kernel)) | refine awp_condM ?_); simp (maxSteps := 4000000) only [↓reduceIte, Nat.reduceLT, Nat.reduceEqDiff, reduceCtorEq, Nat.reduceAdd, Nat.reduceMul, Int.reduceLE, Int.reduceLT, Int.reduceToNat, Nat.reduceLeDiff, Nat.reduceSub, Int.reduceEq, Nat.reduceBEq, List.replicate, List.set, evB, tyA, hgl, bos_len, hll, hF]; (repeat (with_reducible refine And.intro ?_ ?_; exact sdX)); (with_reducible first | refine awp_id ?_ | refine id_call ?_ | refine id_and ?_ | refine id_ex ?_ | refine id_all ?_ | refine id_nat ?_ | refine id_le ?_))))
    refine callVC_scal fnok21 c_awake23 rfl ?_
    simp (maxSteps := 4000000) only [↓reduceIte, Nat.reduceLT, Nat.reduceEqDiff, reduceCtorEq, Nat.reduceAdd, Nat.reduceMul, Int.reduceLE, Int.reduceLT, Int.reduceToNat, Nat.reduceLeDiff, Nat.reduceSub, Int.reduceEq, Nat.reduceBEq, List.replicate, List.set, evB, tyA, k1]
    (repeat (with_reducible refine And.intro ?_ ?_; exact sdX))
    (repeat (first | refine awp_seq ?_ | refine awp_block ?_ | ((first | refine awp_skip ?_ | refine awp_exit ?_ | refine awp_reg ttok ?_ | (refine awp_draw ttok ?dr_calm ?_; (case dr_calm => decide +kernel)) | refine awp_condM ?_); simp (maxSteps := 4000000) only [↓reduceIte, Nat.reduceLT, Nat.reduceEqDiff, reduceCtorEq, Nat.reduceAdd, Nat.reduceMul, Int.reduceLE, Int.reduceLT, Int.reduceToNat, Nat.reduceLeDiff, Nat.reduceSub, Int.reduceEq, Nat.reduceBEq, List.replicate, List.set, evB, tyA, k1]; (repeat (with_reducible refine And.intro ?_ ?_; exact sdX)); (with_reducible first | refine awp_id ?_ | refine id_call ?_ | refine id_and ?_ | refine id_ex ?_ | refine id_all ?_ | refine id_nat ?_ | refine id_le ?_))))
    exact awp_ret (ends_plain (.inr rfl) rfl (by simp (maxSteps := 4000000) only [↓reduceIte, Nat.reduceLT, Nat.reduceEqDiff, reduceCtorEq, Nat.reduceAdd, Nat.reduceMul, Int.reduceLE, Int.reduceLT, Int.reduceToNat, Nat.reduceLeDiff, Nat.reduceSub, Int.reduceEq, Nat.reduceBEq, List.replicate, List.set, evB]; rfl))
  rw [hv] at hgl
  refine callVC_mk fnok18 (hOf false) rfl ?_
  simp (maxSteps := 4000000) only [↓reduceIte, Nat.reduceLT, Nat.reduceEqDiff, reduceCtorEq, Nat.reduceAdd, Nat.reduceMul, Int.reduceLE, Int.reduceLT, Int.reduceToNat, Nat.reduceLeDiff, Nat.reduceSub, Int.reduceEq, Nat.reduceBEq, List.replicate, List.set, evB, tyA, dfaD]
  (repeat (with_reducible refine And.intro ?_ ?_; exact sdX))
  (repeat (first | refine awp_seq ?_ | refine awp_block ?_ | ((first | refine awp_skip ?_ | refine awp_exit ?_ | refine awp_reg ttok ?_ | (refine awp_draw ttok ?dr_calm ?_; (case dr_calm => decide +kernel)) | refine awp_condM ?_); simp (maxSteps := 4000000) only [↓reduceIte, Nat.reduceLT, Nat.reduceEqDiff, reduceCtorEq, Nat.reduceAdd, Nat.reduceMul, Int.reduceLE, Int.reduceLT, Int.reduceToNat, Nat.reduceLeDiff, Nat.reduceSub, Int.reduceEq, Nat.reduceBEq, List.replicate, List.set, evB, tyA]; (repeat (with_reducible refine And.intro ?_ ?_; exact sdX)); (with_reducible first | refine awp_id ?_ | refine id_call ?_ | refine id_and ?_ | refine id_ex ?_ | refine id_all ?_ | refine id_nat ?_ | refine id_le ?_))))
  refine callVC_mk fnok19 hN rfl ?_
  simp (maxSteps := 4000000) only [↓reduceIte, Nat.reduceLT, Nat.reduceEqDiff, reduceCtorEq, Nat.reduceAdd, Nat.reduceMul, Int.reduceLE, Int.reduceLT, Int.reduceToNat, Nat.reduceLeDiff, Nat.reduceSub, Int.reduceEq, Nat.reduceBEq, List.replicate, List.set, evB, tyA, nfaD]
  (repeat (with_reducible refine And.intro ?_ ?_; exact sdX))
  (repeat (first | refine awp_seq ?_ | refine awp_block ?_ | ((first | refine awp_skip ?_ | refine awp_exit ?_ | refine awp_reg ttok ?_ | (refine awp_draw ttok ?dr_calm ?_; (case dr_calm => decide +kernel)) | refine awp_condM ?_); simp (maxSteps := 4000000) only [↓reduceIte, Nat.reduceLT, Nat.reduceEqDiff, reduceCtorEq, Nat.reduceAdd, Nat.reduceMul, Int.reduceLE, Int.reduceLT, Int.reduceToNat, Nat.reduceLeDiff, Nat.reduceSub, Int.reduceEq, Nat.reduceBEq, List.replicate, List.set, evB, tyA]; (repeat (with_reducible refine And.intro ?_ ?_; exact sdX)); (with_reducible first | refine awp_id ?_ | refine id_call ?_ | refine id_and ?_ | refine id_ex ?_ | refine id_all ?_ | refine id_nat ?_ | refine id_le ?_))))
  refine awp_drawG ttok ((0, none) :: (2, none) :: (3, none) :: (1, some [2, 3]) :: (4, none) :: (5, none) :: (6, none) :: []) ([]) ([]) (by decide +kernel) fun O hO => ?_; simp only [OpsAre, Nat.reduceAdd, and_true, List.toList_toArray, List.append_eq, List.cons_append, List.nil_append] at hO; simp (maxSteps := 4000000) only [↓reduceIte, Nat.reduceLT, Nat.reduceEqDiff, reduceCtorEq, Nat.reduceAdd, Nat.reduceMul, Int.reduceLE, Int.reduceLT, Int.reduceToNat, Nat.reduceLeDiff, Nat.reduceSub, Int.reduceEq, Nat.reduceBEq, List.replicate, List.set, evB, tyA, hO, ]; (repeat (with_reducible refine And.intro ?_ ?_; exact sdX))
  refine callVC_mk fnok20 hLv rfl ?_
  simp (maxSteps := 4000000) only [↓reduceIte, Nat.reduceLT, Nat.reduceEqDiff, reduceCtorEq, Nat.reduceAdd, Nat.reduceMul, Int.reduceLE, Int.reduceLT, Int.reduceToNat, Nat.reduceLeDiff, Nat.reduceSub, Int.reduceEq, Nat.reduceBEq, List.replicate, List.set, evB, tyA, hO, hgl, bos_len, hll, hF]
  (repeat (with_reducible refine And.intro ?_ ?_; exact sdX))
  have hal := acts_len lb (pt : Int) lb.length
  have hkN := hok.len
  generalize hA : acts lb (pt : Int) lb.length = A at *
  have hMk := hidM_ok hok A
  have hRl : ∀ s, ((hidM A N).getD s []).length ≤ 1000 := fun s => Nat.le_trans (hidM_rl hok A s) (by omega)
  have hML := hidM_len A N
  have kx : ∀ x : Int, (x != x) = false := fun x => by simp
  have ky : ∀ b : Bool, (b != b) = false := by decide
  have kz : ∀ b : Bool, (!(b == b)) = false := by decide
  have hU := c_Upto A.length 3 (by omega) (by omega)
  have hUm : ∀ i, i < (uptoL A.length 3).length → ((uptoL A.length 3).getD i []).length ≤ 3 ∧ ∀ x ∈ (uptoL A.length 3).getD i [], 0 ≤ x := fun i hi => by
    have := uptoL_mem.1 (getD_mem hi [])
    exact ⟨this.1, fun x hx => (this.2 x hx).1⟩
  have hUl : (uptoL A.length 3).length ≤ 6 * 1048576 := by
    have := uptoP_len (L := A.length) (n := 3) (by omega) (by omega) 4 (by omega)
    rw [uptoP_all] at this
    omega
  generalize uptoL A.length 3 = U at *
  have hV := c_Upto lb.length 3 (by omega) (by omega)
  have hVm : ∀ i, i < (uptoL lb.length 3).length → ((uptoL lb.length 3).getD i []).length ≤ 3 := fun i hi => (uptoL_mem.1 (getD_mem hi [])).1
  have hVl : (uptoL lb.length 3).length ≤ 6 * 1048576 := by
    have := uptoP_len (L := lb.length) (n := 3) (by omega) (by omega) 4 (by omega)
    rw [uptoP_all] at this
    omega
  generalize uptoL lb.length 3 = V at *
  (repeat (first | refine awp_seq ?_ | refine awp_block ?_ | ((first | refine awp_skip ?_ | refine awp_exit ?_ | refine awp_reg ttok ?_ | (refine awp_draw ttok ?dr_calm ?_; (case dr_calm => decide +kernel)) | refine awp_condM ?_); simp (maxSteps := 4000000) only [↓reduceIte, Nat.reduceLT, Nat.reduceEqDiff, reduceCtorEq, Nat.reduceAdd, Nat.reduceMul, Int.reduceLE, Int.reduceLT, Int.reduceToNat, Nat.reduceLeDiff, Nat.reduceSub, Int.reduceEq, Nat.reduceBEq, List.replicate, List.set, evB, tyA, hgl, bos_len, hll, hF, duo_len, kx, mmv_len, iis_len, hML]; (repeat (with_reducible refine And.intro ?_ ?_; exact sdX)); (with_reducible first | refine awp_id ?_ | refine id_call ?_ | refine id_and ?_ | refine id_ex ?_ | refine id_all ?_ | refine id_nat ?_ | refine id_le ?_))))
  refine callVC_mk fnok12 hU rfl ?_
  simp (maxSteps := 4000000) only [↓reduceIte, Nat.reduceLT, Nat.reduceEqDiff, reduceCtorEq, Nat.reduceAdd, Nat.reduceMul, Int.reduceLE, Int.reduceLT, Int.reduceToNat, Nat.reduceLeDiff, Nat.reduceSub, Int.reduceEq, Nat.reduceBEq, List.replicate, List.set, evB, tyA]
  (repeat (with_reducible refine And.intro ?_ ?_; exact sdX))
  (repeat (first | refine awp_seq ?_ | refine awp_block ?_ | ((first | refine awp_skip ?_ | refine awp_exit ?_ | refine awp_reg ttok ?_ | (refine awp_draw ttok ?dr_calm ?_; (case dr_calm => decide +kernel)) | refine awp_condM ?_); simp (maxSteps := 4000000) only [↓reduceIte, Nat.reduceLT, Nat.reduceEqDiff, reduceCtorEq, Nat.reduceAdd, Nat.reduceMul, Int.reduceLE, Int.reduceLT, Int.reduceToNat, Nat.reduceLeDiff, Nat.reduceSub, Int.reduceEq, Nat.reduceBEq, List.replicate, List.set, evB, tyA]; (repeat (with_reducible refine And.intro ?_ ?_; exact sdX)); (with_reducible first | refine awp_id ?_ | refine id_call ?_ | refine id_and ?_ | refine id_ex ?_ | refine id_all ?_ | refine id_nat ?_ | refine id_le ?_))))
  refine awp_loop (X := Nat) (fun i => mkS 162 [(7, .ptr 2011 0 0), (8, .sl false (tri lb)), (9, i64 pt), (10, .ptr 4008 0 0), (13, .ptr 5004 0 0), (14, .sl false (iis U)), (15, i64 i)] [(2011, { sz := 4, rows := [[i64 lb.length, i64 st, .sl false (bos F), .sl false (iis N)]], flat := false }), (4008, { sz := 4, rows := [[i64 A.length, i64 0, .sl false (bos H), .sl false (iis Y)]], flat := false }), (5004, { sz := 4, rows := [[i64 A.length, i64 st, .sl false (bos F), .sl false (mmv (hidM A N))]], flat := false })]) (fun i => i ≤ U.length) (fun i => U.length - i) 0 (Nat.zero_le _) (mkS_le rfl ?_ ?_) ?_
  · simp (maxSteps := 4000000) only [↓reduceIte, Nat.reduceLT, Nat.reduceEqDiff, reduceCtorEq, Nat.reduceAdd, Nat.reduceMul, Int.reduceLE, Int.reduceLT, Int.reduceToNat, Nat.reduceLeDiff, Nat.reduceSub, Int.reduceEq, Nat.reduceBEq, List.replicate, List.set, evB]
    try rfl
  · simp (maxSteps := 4000000) only [↓reduceIte, Nat.reduceLT, Nat.reduceEqDiff, reduceCtorEq, Nat.reduceAdd, Nat.reduceMul, Int.reduceLE, Int.reduceLT, Int.reduceToNat, Nat.reduceLeDiff, Nat.reduceSub, Int.reduceEq, Nat.reduceBEq, List.replicate, List.set, evB]
    try rfl
  · intro i hi
    by_cases hlt : i < U.length
    · have d1 : decide ((i : Int) < (U.length : Int)) = true := by simpa using hlt
      have hwi : IntKind.i64.wrap ((i : Int) + 1) = ((i + 1 : Nat) : Int) := i64_in (by omega) (by omega)
      have hgi := iis_get hlt
      obtain ⟨hm1, hm2⟩ := hUm i hlt
      generalize U.getD i [] = w at *
      have hE := c_EndsG hY 0 H hH (by omega) (by omega) 0 (by omega) false w (by omega)
      have hT := c_RTakes hMk (by omega) st F hF false w (by omega) hRl
      have hlw := hlang w hm2
      rw [← hlw] at hT
      simp only [Int.natCast_zero] at hT
      (repeat (first | refine awp_seq ?_ | refine awp_block ?_ | ((first | refine awp_skip ?_ | refine awp_exit ?_ | refine awp_reg ttok ?_ | (refine awp_draw ttok ?dr_calm ?_; (case dr_calm => decide +kernel)) | refine awp_condM ?_); simp (maxSteps := 4000000) only [↓reduceIte, Nat.reduceLT, Nat.reduceEqDiff, reduceCtorEq, Nat.reduceAdd, Nat.reduceMul, Int.reduceLE, Int.reduceLT, Int.reduceToNat, Nat.reduceLeDiff, Nat.reduceSub, Int.reduceEq, Nat.reduceBEq, List.replicate, List.set, evB, tyA, d1, iis_len]; (repeat (with_reducible refine And.intro ?_ ?_; exact sdX)); (with_reducible first | refine awp_id ?_ | refine id_call ?_ | refine id_and ?_ | refine id_ex ?_ | refine id_all ?_ | refine id_nat ?_ | refine id_le ?_))))
      refine awp_drawG ttok ((0, none) :: (1, none) :: (2, none) :: (3, none) :: (4, none) :: (5, none) :: (6, none) :: (8, none) :: (9, none) :: (10, none) :: (11, none) :: (12, none) :: (7, some [8, 9, 10, 11, 12]) :: (13, some []) :: (14, none) :: []) ([]) ([]) (by decide +kernel) fun O hO => ?_; simp only [OpsAre, Nat.reduceAdd, and_true, List.toList_toArray, List.append_eq, List.cons_append, List.nil_append] at hO; simp (maxSteps := 4000000) only [↓reduceIte, Nat.reduceLT, Nat.reduceEqDiff, reduceCtorEq, Nat.reduceAdd, Nat.reduceMul, Int.reduceLE, Int.reduceLT, Int.reduceToNat, Nat.reduceLeDiff, Nat.reduceSub, Int.reduceEq, Nat.reduceBEq, List.replicate, List.set, evB, tyA, hO, hgi, iis_len]; (repeat (with_reducible refine And.intro ?_ ?_; exact sdX))
      refine callVC_scal fnok14 hE rfl ?_
      simp (maxSteps := 4000000) only [↓reduceIte, Nat.reduceLT, Nat.reduceEqDiff, reduceCtorEq, Nat.reduceAdd, Nat.reduceMul, Int.reduceLE, Int.reduceLT, Int.reduceToNat, Nat.reduceLeDiff, Nat.reduceSub, Int.reduceEq, Nat.reduceBEq, List.replicate, List.set, evB, tyA, hO, hgi, iis_len]
      (repeat (with_reducible refine And.intro ?_ ?_; exact sdX))
      refine callVC_scal fnok13 hT rfl ?_
      simp (maxSteps := 4000000) only [↓reduceIte, Nat.reduceLT, Nat.reduceEqDiff, reduceCtorEq, Nat.reduceAdd, Nat.reduceMul, Int.reduceLE, Int.reduceLT, Int.reduceToNat, Nat.reduceLeDiff, Nat.reduceSub, Int.reduceEq, Nat.reduceBEq, List.replicate, List.set, evB, tyA, hO, ky, kz]
      (repeat (with_reducible refine And.intro ?_ ?_; exact sdX))
      (repeat (first | refine awp_seq ?_ | refine awp_block ?_ | ((first | refine awp_skip ?_ | refine awp_exit ?_ | refine awp_reg ttok ?_ | (refine awp_draw ttok ?dr_calm ?_; (case dr_calm => decide +kernel)) | refine awp_condM ?_); simp (maxSteps := 4000000) only [↓reduceIte, Nat.reduceLT, Nat.reduceEqDiff, reduceCtorEq, Nat.reduceAdd, Nat.reduceMul, Int.reduceLE, Int.reduceLT, Int.reduceToNat, Nat.reduceLeDiff, Nat.reduceSub, Int.reduceEq, Nat.reduceBEq, List.replicate, List.set, evB, tyA, hwi, ky, kz]; (repeat (with_reducible refine And.intro ?_ ?_; exact sdX)); (with_reducible first | refine awp_id ?_ | refine id_call ?_ | refine id_and ?_ | refine id_ex ?_ | refine id_all ?_ | refine id_nat ?_ | refine id_le ?_))))
      refine ⟨i + 1, by omega, by omega, mkS_le rfl ?_ ?_⟩
      · exact evX
      · exact evX
    · have d1 : decide ((i : Int) < (U.length : Int)) = false := by simpa using hlt
      (repeat (first | refine awp_seq ?_ | refine awp_block ?_ | ((first | refine awp_skip ?_ | refine awp_exit ?_ | refine awp_reg ttok ?_ | (refine awp_draw ttok ?dr_calm ?_; (case dr_calm => decide +kernel)) | refine awp_condM ?_); simp (maxSteps := 4000000) only [↓reduceIte, Nat.reduceLT, Nat.reduceEqDiff, reduceCtorEq, Nat.reduceAdd, Nat.reduceMul, Int.reduceLE, Int.reduceLT, Int.reduceToNat, Nat.reduceLeDiff, Nat.reduceSub, Int.reduceEq, Nat.reduceBEq, List.replicate, List.set, evB, tyA, d1, iis_len]; (repeat (with_reducible refine And.intro ?_ ?_; exact sdX)); (with_reducible first | refine awp_id ?_ | refine id_call ?_ | refine id_and ?_ | refine id_ex ?_ | refine id_all ?_ | refine id_nat ?_ | refine id_le ?_))))
      refine callVC_mk fnok12 hV rfl ?_
      simp (maxSteps := 4000000) only [↓reduceIte, Nat.reduceLT, Nat.reduceEqDiff, reduceCtorEq, Nat.reduceAdd, Nat.reduceMul, Int.reduceLE, Int.reduceLT, Int.reduceToNat, Nat.reduceLeDiff, Nat.reduceSub, Int.reduceEq, Nat.reduceBEq, List.replicate, List.set, evB, tyA]
      (repeat (with_reducible refine And.intro ?_ ?_; exact sdX))
      (repeat (first | refine awp_seq ?_ | refine awp_block ?_ | ((first | refine awp_skip ?_ | refine awp_exit ?_ | refine awp_reg ttok ?_ | (refine awp_draw ttok ?dr_calm ?_; (case dr_calm => decide +kernel)) | refine awp_condM ?_); simp (maxSteps := 4000000) only [↓reduceIte, Nat.reduceLT, Nat.reduceEqDiff, reduceCtorEq, Nat.reduceAdd, Nat.reduceMul, Int.reduceLE, Int.reduceLT, Int.reduceToNat, Nat.reduceLeDiff, Nat.reduceSub, Int.reduceEq, Nat.reduceBEq, List.replicate, List.set, evB, tyA]; (repeat (with_reducible refine And.intro ?_ ?_; exact sdX)); (with_reducible first | refine awp_id ?_ | refine id_call ?_ | refine id_and ?_ | refine id_ex ?_ | refine id_all ?_ | refine id_nat ?_ | refine id_le ?_))))
      refine awp_loop (X := Nat) (fun i => mkS 162 [(7, .ptr 2011 0 0), (8, .sl false (tri lb)), (9, i64 pt), (10, .ptr 4008 0 0), (16, .sl false (iis V)), (17, i64 i)] [(2011, { sz := 4, rows := [[i64 lb.length, i64 st, .sl false (bos F), .sl false (iis N)]], flat := false }), (4008, { sz := 4, rows := [[i64 A.length, i64 0, .sl false (bos H), .sl false (iis Y)]], flat := false })]) (fun i => i ≤ V.length) (fun i => V.length - i) 0 (Nat.zero_le _) (mkS_le rfl ?_ ?_) ?_
      · simp (maxSteps := 4000000) only [↓reduceIte, Nat.reduceLT, Nat.reduceEqDiff, reduceCtorEq, Nat.reduceAdd, Nat.reduceMul, Int.reduceLE, Int.reduceLT, Int.reduceToNat, Nat.reduceLeDiff, Nat.reduceSub, Int.reduceEq, Nat.reduceBEq, List.replicate, List.set, evB]
        try rfl
      · simp (maxSteps := 4000000) only [↓reduceIte, Nat.reduceLT, Nat.reduceEqDiff, reduceCtorEq, Nat.reduceAdd, Nat.reduceMul, Int.reduceLE, Int.reduceLT, Int.reduceToNat, Nat.reduceLeDiff, Nat.reduceSub, Int.reduceEq, Nat.reduceBEq, List.replicate, List.set, evB]
        try rfl
      · intro i hi
        by_cases hlt : i < V.length
        · have d1 : decide ((i : Int) < (V.length : Int)) = true := by simpa using hlt
          have hwi : IntKind.i64.wrap ((i : Int) + 1) = ((i + 1 : Nat) : Int) := i64_in (by omega) (by omega)
          have hgi := iis_get hlt
          have hm1 := hVm i hlt
          generalize V.getD i [] = w at *
          have hE := c_EndsG hok st F hF (by omega) (by omega) st (by omega) false w (by omega)
          have hWd := c_Word false false lb (pt : Int) w (by omega) (by omega)
          have hwl := wordOf_len lb (pt : Int) w
          have hE2 := c_EndsG hY 0 H hH (by omega) (by omega) 0 (by omega) false (wordOf lb (pt : Int) w) (by omega)
          have hwo := hword w
          simp only [Int.natCast_zero] at hwo
          generalize wordOf lb (pt : Int) w = w' at *
          have hit : List.take w'.length w' = w' := List.take_length
          (repeat (first | refine awp_seq ?_ | refine awp_block ?_ | ((first | refine awp_skip ?_ | refine awp_exit ?_ | refine awp_reg ttok ?_ | (refine awp_draw ttok ?dr_calm ?_; (case dr_calm => decide +kernel)) | refine awp_condM ?_); simp (maxSteps := 4000000) only [↓reduceIte, Nat.reduceLT, Nat.reduceEqDiff, reduceCtorEq, Nat.reduceAdd, Nat.reduceMul, Int.reduceLE, Int.reduceLT, Int.reduceToNat, Nat.reduceLeDiff, Nat.reduceSub, Int.reduceEq, Nat.reduceBEq, List.replicate, List.set, evB, tyA, d1, iis_len]; (repeat (with_reducible refine And.intro ?_ ?_; exact sdX)); (with_reducible first | refine awp_id ?_ | refine id_call ?_ | refine id_and ?_ | refine id_ex ?_ | refine id_all ?_ | refine id_nat ?_ | refine id_le ?_))))
          refine awp_drawG ttok ((0, none) :: (1, none) :: (2, none) :: (3, none) :: (4, none) :: (5, none) :: (6, none) :: (7, some []) :: (8, none) :: (9, none) :: (10, none) :: (11, none) :: (12, none) :: (13, none) :: (14, none) :: (15, none) :: (16, none) :: (17, none) :: (18, some [9, 10, 11]) :: (19, some []) :: (20, none) :: (21, none) :: []) ([]) ([]) (by decide +kernel) fun O hO => ?_; simp only [OpsAre, Nat.reduceAdd, and_true, List.toList_toArray, List.append_eq, List.cons_append, List.nil_append] at hO; simp (maxSteps := 4000000) only [↓reduceIte, Nat.reduceLT, Nat.reduceEqDiff, reduceCtorEq, Nat.reduceAdd, Nat.reduceMul, Int.reduceLE, Int.reduceLT, Int.reduceToNat, Nat.reduceLeDiff, Nat.reduceSub, Int.reduceEq, Nat.reduceBEq, List.replicate, List.set, evB, tyA, hO, hgi, iis_len]; (repeat (with_reducible refine And.intro ?_ ?_; exact sdX))
          refine callVC_scal fnok14 hE rfl ?_
          cases hq : endsD F N st w
          · simp (maxSteps := 4000000) only [↓reduceIte, Nat.reduceLT, Nat.reduceEqDiff, reduceCtorEq, Nat.reduceAdd, Nat.reduceMul, Int.reduceLE, Int.reduceLT, Int.reduceToNat, Nat.reduceLeDiff, Nat.reduceSub, Int.reduceEq, Nat.reduceBEq, List.replicate, List.set, evB, tyA, hO, hgi, iis_len]
            (repeat (with_reducible refine And.intro ?_ ?_; exact sdX))
            (repeat (first | refine awp_seq ?_ | refine awp_block ?_ | ((first | refine awp_skip ?_ | refine awp_exit ?_ | refine awp_reg ttok ?_ | (refine awp_draw ttok ?dr_calm ?_; (case dr_calm => decide +kernel)) | refine awp_condM ?_); simp (maxSteps := 4000000) only [↓reduceIte, Nat.reduceLT, Nat.reduceEqDiff, reduceCtorEq, Nat.reduceAdd, Nat.reduceMul, Int.reduceLE, Int.reduceLT, Int.reduceToNat, Nat.reduceLeDiff, Nat.reduceSub, Int.reduceEq, Nat.reduceBEq, List.replicate, List.set, evB, tyA, hwi]; (repeat (with_reducible refine And.intro ?_ ?_; exact sdX)); (with_reducible first | refine awp_id ?_ | refine id_call ?_ | refine id_and ?_ | refine id_ex ?_ | refine id_all ?_ | refine id_nat ?_ | refine id_le ?_))))
            refine ⟨i + 1, by omega, by omega, mkS_le rfl ?_ ?_⟩
            · exact evX
            · exact evX
          · rw [hwo hq] at hE2
            simp (maxSteps := 4000000) only [↓reduceIte, Nat.reduceLT, Nat.reduceEqDiff, reduceCtorEq, Nat.reduceAdd, Nat.reduceMul, Int.reduceLE, Int.reduceLT, Int.reduceToNat, Nat.reduceLeDiff, Nat.reduceSub, Int.reduceEq, Nat.reduceBEq, List.replicate, List.set, evB, tyA, hO, hgi, iis_len]
            (repeat (with_reducible refine And.intro ?_ ?_; exact sdX))
            refine callVC_mk fnok22 hWd rfl ?_
            simp (maxSteps := 4000000) only [↓reduceIte, Nat.reduceLT, Nat.reduceEqDiff, reduceCtorEq, Nat.reduceAdd, Nat.reduceMul, Int.reduceLE, Int.reduceLT, Int.reduceToNat, Nat.reduceLeDiff, Nat.reduceSub, Int.reduceEq, Nat.reduceBEq, List.replicate, List.set, evB, tyA, hO, ints_take, hit, ints_len]
            (repeat (with_reducible refine And.intro ?_ ?_; exact sdX))
            refine callVC_scal fnok14 hE2 rfl ?_
            simp (maxSteps := 4000000) only [↓reduceIte, Nat.reduceLT, Nat.reduceEqDiff, reduceCtorEq, Nat.reduceAdd, Nat.reduceMul, Int.reduceLE, Int.reduceLT, Int.reduceToNat, Nat.reduceLeDiff, Nat.reduceSub, Int.reduceEq, Nat.reduceBEq, List.replicate, List.set, evB, tyA, hO]
            (repeat (with_reducible refine And.intro ?_ ?_; exact sdX))
            (repeat (first | refine awp_seq ?_ | refine awp_block ?_ | ((first | refine awp_skip ?_ | refine awp_exit ?_ | refine awp_reg ttok ?_ | (refine awp_draw ttok ?dr_calm ?_; (case dr_calm => decide +kernel)) | refine awp_condM ?_); simp (maxSteps := 4000000) only [↓reduceIte, Nat.reduceLT, Nat.reduceEqDiff, reduceCtorEq, Nat.reduceAdd, Nat.reduceMul, Int.reduceLE, Int.reduceLT, Int.reduceToNat, Nat.reduceLeDiff, Nat.reduceSub, Int.reduceEq, Nat.reduceBEq, List.replicate, List.set, evB, tyA, hwi]; (repeat (with_reducible refine And.intro ?_ ?_; exact sdX)); (with_reducible first | refine awp_id ?_ | refine id_call ?_ | refine id_and ?_ | refine id_ex ?_ | refine id_all ?_ | refine id_nat ?_ | refine id_le ?_))))
            refine ⟨i + 1, by omega, by omega, mkS_le rfl ?_ ?_⟩
            · exact evX
            · exact evX
        · have d1 : decide ((i : Int) < (V.length : Int)) = false := by simpa using hlt
          have hB := c_HOfBad (lb := lb ++ [(0, 0, 0)]) hok (by omega) (by omega) st hst F hF false (pt : Int) (by simp) (by simp; omega)
          have hr1 : [[D.v (.int .i64 0), D.v (.int .i64 0), D.v (.int .i64 0)]] = tri [(0, 0, 0)] := rfl
          have hs1 : (tri [(0, 0, 0)]).set 0 [D.v (.int .i64 0), D.v (.int .i64 0), D.v (.int .i64 0)] = tri [(0, 0, 0)] := rfl
          have hl1 : (tri [(0, 0, 0)]).length = 1 := rfl
          have ht1 : List.take 1 (tri [(0, 0, 0)]) = tri [(0, 0, 0)] := rfl
          have hrw : ∀ m : List Lab, (∀ row ∈ tri m, row.length = 3) = True := fun m => by
            simp only [tri, List.mem_map, eq_iff_iff, iff_true]
            rintro row ⟨x, _, rfl⟩; rfl
          have hap : tri lb ++ tri [(0, 0, 0)] = tri (lb ++ [(0, 0, 0)]) := by simp [tri]
          have hti2 : List.take (lb.length + 1) (lb ++ [((0 : Int), (0 : Int), (0 : Int))]) = lb ++ [(0, 0, 0)] := List.take_of_length_le (by simp)
          have hll2 : (lb ++ [((0 : Int), (0 : Int), (0 : Int))]).length = lb.length + 1 := by simp
          have hti : List.take lb.length lb = lb := List.take_length
          (repeat (first | refine awp_seq ?_ | refine awp_block ?_ | ((first | refine awp_skip ?_ | refine awp_exit ?_ | refine awp_reg ttok ?_ | (refine awp_draw ttok ?dr_calm ?_; (case dr_calm => decide +kernel)) | refine awp_condM ?_); simp (maxSteps := 4000000) only [↓reduceIte, Nat.reduceLT, Nat.reduceEqDiff, reduceCtorEq, Nat.reduceAdd, Nat.reduceMul, Int.reduceLE, Int.reduceLT, Int.reduceToNat, Nat.reduceLeDiff, Nat.reduceSub, Int.reduceEq, Nat.reduceBEq, List.replicate, List.set, evB, tyA, d1, iis_len]; (repeat (with_reducible refine And.intro ?_ ?_; exact sdX)); (with_reducible first | refine awp_id ?_ | refine id_call ?_ | refine id_and ?_ | refine id_ex ?_ | refine id_all ?_ | refine id_nat ?_ | refine id_le ?_))))
          refine awp_drawS ttok (mkS 162 [(20, i64 1)] []) (.nd 1 5 (.nd 1 13 (.nd 5 13 .lf .lf) (.nd 3 13 .lf (.nd 6 13 .lf (.nd 8 13 .lf .lf)))) (.nd 1 13 (.nd 3 5 .lf .lf) (.nd 3 5 (.nd 3 13 (.nd 5 13 .lf .lf) (.nd 6 13 .lf (.nd 8 13 .lf .lf))) (.nd 3 13 .lf (.nd 5 13 .lf (.nd 6 13 .lf (.nd 8 13 .lf .lf))))))) [((0, none) :: (2, none) :: (4, none) :: (7, none) :: (13, some [0, 2, 4, 7]) :: (5, some [0, 2, 7]) :: (1, some [0, 2, 7]) :: (3, some [0, 7]) :: (6, some [0, 7]) :: (8, some []) :: (9, none) :: (10, none) :: (11, none) :: (12, none) :: (14, some [11, 12]) :: (15, none) :: (16, none) :: []), ((0, none) :: (2, none) :: (4, none) :: (7, none) :: (5, some [0, 2, 7]) :: (13, some [0, 2, 7]) :: (1, some [0, 2, 7]) :: (3, some [0, 7]) :: (6, some [0, 7]) :: (8, some []) :: (9, none) :: (10, none) :: (11, none) :: (12, none) :: (14, some [11, 12]) :: (15, none) :: (16, none) :: []), ((0, none) :: (2, none) :: (4, none) :: (7, none) :: (5, some [0, 2, 7]) :: (1, some [0, 2, 7]) :: (13, some [0, 2, 7]) :: (3, some [0, 7]) :: (6, some [0, 7]) :: (8, some []) :: (9, none) :: (10, none) :: (11, none) :: (12, none) :: (14, some [11, 12]) :: (15, none) :: (16, none) :: []), ((0, none) :: (2, none) :: (4, none) :: (7, none) :: (5, some [0, 2, 7]) :: (1, some [0, 2, 7]) :: (3, some [0, 7]) :: (13, some [0, 7]) :: (6, some [0, 7]) :: (8, some []) :: (9, none) :: (10, none) :: (11, none) :: (12, none) :: (14, some [11, 12]) :: (15, none) :: (16, none) :: []), ((0, none) :: (2, none) :: (4, none) :: (7, none) :: (5, some [0, 2, 7]) :: (1, some [0, 2, 7]) :: (3, some [0, 7]) :: (6, some [0, 7]) :: (13, some [0, 7]) :: (8, some []) :: (9, none) :: (10, none) :: (11, none) :: (12, none) :: (14, some [11, 12]) :: (15, none) :: (16, none) :: []), ((0, none) :: (2, none) :: (4, none) :: (7, none) :: (5, some [0, 2, 7]) :: (1, some [0, 2, 7]) :: (3, some [0, 7]) :: (6, some [0, 7]) :: (8, some []) :: (9, none) :: (10, none) :: (11, none) :: (12, none) :: (13, some [9, 10, 11, 12]) :: (14, some [11, 12]) :: (15, none) :: (16, none) :: []), ((0, none) :: (2, none) :: (4, none) :: (7, none) :: (13, some [0, 2, 4, 7]) :: (1, some [0, 2, 4, 7]) :: (5, some [0, 2, 7]) :: (3, some [0, 7]) :: (6, some [0, 7]) :: (8, some []) :: (9, none) :: (10, none) :: (11, none) :: (12, none) :: (14, some [11, 12]) :: (15, none) :: (16, none) :: []), ((0, none) :: (2, none) :: (4, none) :: (7, none) :: (13, some [0, 2, 4, 7]) :: (1, some [0, 2, 4, 7]) :: (3, some [0, 4, 7]) :: (5, some [0, 7]) :: (6, some [0, 7]) :: (8, some []) :: (9, none) :: (10, none) :: (11, none) :: (12, none) :: (14, some [11, 12]) :: (15, none) :: (16, none) :: []), ((0, none) :: (2, none) :: (4, none) :: (7, none) :: (1, some [0, 2, 4, 7]) :: (13, some [0, 2, 4, 7]) :: (5, some [0, 2, 7]) :: (3, some [0, 7]) :: (6, some [0, 7]) :: (8, some []) :: (9, none) :: (10, none) :: (11, none) :: (12, none) :: (14, some [11, 12]) :: (15, none) :: (16, none) :: []), ((0, none) :: (2, none) :: (4, none) :: (7, none) :: (1, some [0, 2, 4, 7]) :: (5, some [0, 2, 7]) :: (13, some [0, 2, 7]) :: (3, some [0, 7]) :: (6, some [0, 7]) :: (8, some []) :: (9, none) :: (10, none) :: (11, none) :: (12, none) :: (14, some [11, 12]) :: (15, none) :: (16, none) :: []), ((0, none) :: (2, none) :: (4, none) :: (7, none) :: (1, some [0, 2, 4, 7]) :: (5, some [0, 2, 7]) :: (3, some [0, 7]) :: (13, some [0, 7]) :: (6, some [0, 7]) :: (8, some []) :: (9, none) :: (10, none) :: (11, none) :: (12, none) :: (14, some [11, 12]) :: (15, none) :: (16, none) :: []), ((0, none) :: (2, none) :: (4, none) :: (7, none) :: (1, some [0, 2, 4, 7]) :: (5, some [0, 2, 7]) :: (3, some [0, 7]) :: (6, some [0, 7]) :: (13, some [0, 7]) :: (8, some []) :: (9, none) :: (10, none) :: (11, none) :: (12, none) :: (14, some [11, 12]) :: (15, none) :: (16, none) :: []), ((0, none) :: (2, none) :: (4, none) :: (7, none) :: (1, some [0, 2, 4, 7]) :: (5, some [0, 2, 7]) :: (3, some [0, 7]) :: (6, some [0, 7]) :: (8, some []) :: (9, none) :: (10, none) :: (11, none) :: (12, none) :: (13, some [9, 10, 11, 12]) :: (14, some [11, 12]) :: (15, none) :: (16, none) :: []), ((0, none) :: (2, none) :: (4, none) :: (7, none) :: (1, some [0, 2, 4, 7]) :: (13, some [0, 2, 4, 7]) :: (3, some [0, 4, 7]) :: (5, some [0, 7]) :: (6, some [0, 7]) :: (8, some []) :: (9, none) :: (10, none) :: (11, none) :: (12, none) :: (14, some [11, 12]) :: (15, none) :: (16, none) :: []), ((0, none) :: (2, none) :: (4, none) :: (7, none) :: (1, some [0, 2, 4, 7]) :: (3, some [0, 4, 7]) :: (13, some [0, 4, 7]) :: (5, some [0, 7]) :: (6, some [0, 7]) :: (8, some []) :: (9, none) :: (10, none) :: (11, none) :: (12, none) :: (14, some [11, 12]) :: (15, none) :: (16, none) :: []), ((0, none) :: (2, none) :: (4, none) :: (7, none) :: (1, some [0, 2, 4, 7]) :: (3, some [0, 4, 7]) :: (5, some [0, 7]) :: (13, some [0, 7]) :: (6, some [0, 7]) :: (8, some []) :: (9, none) :: (10, none) :: (11, none) :: (12, none) :: (14, some [11, 12]) :: (15, none) :: (16, none) :: []), ((0, none) :: (2, none) :: (4, none) :: (7, none) :: (1, some [0, 2, 4, 7]) :: (3, some [0, 4, 7]) :: (5, some [0, 7]) :: (6, some [0, 7]) :: (13, some [0, 7]) :: (8, some []) :: (9, none) :: (10, none) :: (11, none) :: (12, none) :: (14, some [11, 12]) :: (15, none) :: (16, none) :: []), ((0, none) :: (2, none) :: (4, none) :: (7, none) :: (1, some [0, 2, 4, 7]) :: (3, some [0, 4, 7]) :: (5, some [0, 7]) :: (6, some [0, 7]) :: (8, some []) :: (9, none) :: (10, none) :: (11, none) :: (12, none) :: (13, some [9, 10, 11, 12]) :: (14, some [11, 12]) :: (15, none) :: (16, none) :: [])] [0, 2, 4, 7, 1, 3, 5, 6, 8, 9, 10, 11, 12, 13, 14, 15, 16] [0, 1, 2, 3, 4, 5, 6, 7, 8, 9, 10, 11, 12, 13, 14, 15, 16] [0, 1, 2, 3, 4, 5, 6, 7, 8, 9, 10, 13, 14, 11, 15, 12, 16] (by decide +kernel) ?_ (fun O hO => ?_)
          rotate_left
          · simp only [OpsAre, Nat.reduceAdd, and_true] at hO
            simp only [aopsS_cons, aopsS_nil, and_true]
            repeat' apply And.intro
            all_goals
              simp (maxSteps := 4000000) only [↓reduceIte, Nat.reduceLT, Nat.reduceEqDiff, reduceCtorEq, Nat.reduceAdd, Nat.reduceMul, Int.reduceLE, Int.reduceLT, Int.reduceToNat, Nat.reduceLeDiff, Nat.reduceSub, Int.reduceEq, Nat.reduceBEq, List.replicate, List.set, evB, tyA, hO, hr1, hs1, hl1, ht1, hrw, hap, tri_len, tri_take, hti, hti2, hll2]; (repeat (with_reducible refine And.intro ?_ ?_; exact sdX))
              refine callVC_mk fnok18 hB rfl ?_
              unfold noDfa
              simp (maxSteps := 4000000) only [↓reduceIte, Nat.reduceLT, Nat.reduceEqDiff, reduceCtorEq, Nat.reduceAdd, Nat.reduceMul, Int.reduceLE, Int.reduceLT, Int.reduceToNat, Nat.reduceLeDiff, Nat.reduceSub, Int.reduceEq, Nat.reduceBEq, List.replicate, List.set, evB, tyA, hO, hr1, hs1, hl1, ht1, hrw, hap, tri_len, tri_take, hti, hti2, hll2]
              (repeat (with_reducible refine And.intro ?_ ?_; exact sdX))
              refine mkS_le rfl ?_ ?_
              · exact evX
              · trivial
          have k1 : ((1 : Int) == 1) = true := rfl
          (repeat (first | refine awp_seq ?_ | refine awp_block ?_ | ((first | refine awp_skip ?_ | refine awp_exit ?_ | refine awp_reg ttok ?_ | (refine awp_draw ttok ?dr_calm ?_; (case dr_calm => decide +kernel)) | refine awp_condM ?_); simp (maxSteps := 4000000) only [↓reduceIte, Nat.reduceLT, Nat.reduceEqDiff, reduceCtorEq, Nat.reduceAdd, Nat.reduceMul, Int.reduceLE, Int.reduceLT, Int.reduceToNat, Nat.reduceLeDiff, Nat.reduceSub, Int.reduceEq, Nat.reduceBEq, List.replicate, List.set, evB, tyA]; (repeat (with_reducible refine And.intro ?_ ?_; exact sdX)); (with_reducible first | refine awp_id ?_ | refine id_call ?_ | refine id_and ?_ | refine id_ex ?_ | refine id_all ?_ | refine id_nat ?_ | refine id_le ?_))))
          refine callVC_scal fnok21 c_awake23 rfl ?_
          simp (maxSteps := 4000000) only [↓reduceIte, Nat.reduceLT, Nat.reduceEqDiff, reduceCtorEq, Nat.reduceAdd, Nat.reduceMul, Int.reduceLE, Int.reduceLT, Int.reduceToNat, Nat.reduceLeDiff, Nat.reduceSub, Int.reduceEq, Nat.reduceBEq, List.replicate, List.set, evB, tyA, k1]
          (repeat (with_reducible refine And.intro ?_ ?_; exact sdX))
          (repeat (first | refine awp_seq ?_ | refine awp_block ?_ | ((first | refine awp_skip ?_ | refine awp_exit ?_ | refine awp_reg ttok ?_ | (refine awp_draw ttok ?dr_calm ?_; (case dr_calm => decide +kernel)) | refine awp_condM ?_); simp (maxSteps := 4000000) only [↓reduceIte, Nat.reduceLT, Nat.reduceEqDiff, reduceCtorEq, Nat.reduceAdd, Nat.reduceMul, Int.reduceLE, Int.reduceLT, Int.reduceToNat, Nat.reduceLeDiff, Nat.reduceSub, Int.reduceEq, Nat.reduceBEq, List.replicate, List.set, evB, tyA, k1]; (repeat (with_reducible refine And.intro ?_ ?_; exact sdX)); (with_reducible first | refine awp_id ?_ | refine id_call ?_ | refine id_and ?_ | refine id_ex ?_ | refine id_all ?_ | refine id_nat ?_ | refine id_le ?_))))
          exact awp_ret (ends_plain (.inr rfl) rfl evX)
end Go.Proofs.Ytcpipfodedfpkaa
namespace Go.Proofs.Ytcpipfodedfpkaa.hideOf
open Go.ChangeShapes Go.WideShapes Go.ChangeAt Go.RowKit
open Go.Ab
theorem own : ownKnob Try.prog.godebug = none := by kernel_rfl
theorem laidOut : laidOutB Try.prog = true := by kernel_rfl
set_option maxRecDepth 100000 in
theorem lifted (os : Os) (started : os.Started) (H : Type) (enc : TypeId × Value → H) :
    ReturnsInHanded {} Try.checked os 4 .any (Rows.hideOfSpec.pre6 enc Try.prog Try.f4 Rows.hideOfRow.domain false) (Rows.hideOfSpec.post enc Try.prog Try.f4 false true false false) := by
  refine returnsInHanded_of_change (C := Try.checked) own started (by kernel_rfl) Try.func4
    (ChangeSpec.witness6 (enc := enc) (C := Try.checked) false ⟨#[], #[.slice none 0 0, .int .i64 0, .agg #[.int .i64 0, .int .i64 0, .int .i64 0]], []⟩ 8 (by kernel_rfl) (by kernel_rfl) (by kernel_rfl) (by kernel_rfl)) ?_
  intro W base args ds gs before hval0 hW hcnd _
  have hval : ∀ (j : Nat) t v, Try.f4.params[j]? = some t → args[j]? = some v → Value.okWide Try.prog W .any base t v := hval0
  have hW' := hW
  obtain ⟨p, q, hA0, hV, rfl, hfz, hnd⟩ := hW
  have hA : DataW.TrodAll enc Try.prog W 0 (fun _ => true) true Try.f4.params.toList args.toList ds p := hA0
  rw [Try.params4] at hA hval
  obtain ⟨v0, vs0, d0, ds0, p0, q0, hargs, rfl, rfl, k0, r0⟩ := trodAll_cons hA
  obtain ⟨v1, vs1, d1, ds1, p1, q1, rfl, rfl, rfl, k1, r1⟩ := trodAll_cons r0
  obtain ⟨v2, vs2, d2, ds2, p2, q2, rfl, rfl, rfl, k2, r2⟩ := trodAll_cons r1
  obtain ⟨rfl, rfl, rfl⟩ := trodAll_nil r2
  obtain rfl : args = #[v0, v1, v2] := by cases args; simp_all
  obtain ⟨rfl, rfl⟩ := trodVars_none hV
  obtain ⟨a0, h0, e0⟩ := opensArg_slice Try.underlying22 (opens_slice Try.underlying22 (opens_arr3i Try.underlying45 (by kernel_rfl) (by kernel_rfl) Try.underlying3) (fun a => by kernel_rfl) (by decide +kernel)) H enc W base v0 d0 p0 (hval 0 _ v0 rfl rfl) k0
  obtain ⟨a1, h1, e1⟩ := opensArg_int Try.underlying3 (opens_i64 Try.underlying3) H enc W base v1 d1 p1 (hval 1 _ v1 rfl rfl) k1
  obtain ⟨a2, h2, e2⟩ := opensArg_agg Try.underlying45 rfl (opens_arr3i Try.underlying45 (by kernel_rfl) (by kernel_rfl) Try.underlying3) H enc W base v2 d2 p2 (hval 2 _ v2 rfl rfl) k2
  refine (law_walk (c_HideOf false a0 a1 a2.1 a2.2.1 a2.2.2 h0.1) (vs := [v0, v1, v2]) ⟨e0, e1, e2, trivial⟩).mono fun e W' ⟨he, bel⟩ => ?_
  subst he
  exact ⟨_, rfl, law_end hW' rfl bel rfl rfl rfl rfl Try.underlying4 laidOut (by kernel_rfl)⟩
theorem proved : Rows.HideOfSaid :=
  OpenClaim.holds_of_wide 4 Try.f4 rfl rfl rfl rfl rfl rfl rfl ⟨rfl, rfl, rfl, rfl, rfl⟩ rfl rfl rfl rfl rfl (by kernel_rfl) Try.func4 (by kernel_rfl)
    (of_decide_eq_true (by kernel_rfl)) (by unfold Func.isWrapper; first | (rw [if_pos (by decide +kernel)]; kernel_rfl) | (rw [if_neg (by decide +kernel)]; exact ⟨rfl, rfl⟩))
    (fun os started H enc _ => lifted os started H enc)
#print axioms proved
end Go.Proofs.Ytcpipfodedfpkaa.hideOf
