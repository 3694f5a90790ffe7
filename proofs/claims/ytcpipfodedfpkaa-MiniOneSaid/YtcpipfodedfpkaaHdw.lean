import Derived.Test.YtcpipfodedfpkaaSl
import Derived.Test.YtcpipfodedfpkaaRm
import Derived.Test.YtcpipfodedfpkaaRn
import Derived.Test.YtcpipfodedfpkaaOl
import Derived.Test.YtcpipfodedfpkaaMay
import Derived.Test.YtcpipfodedfpkaaTy
set_option linter.unusedSimpArgs false
set_option linter.unusedVariables false
namespace Go.Proofs.Ytcpipfodedfpkaa
open Go.Ab
theorem noI_intsE (l : List Int) : AObj.noI { sz := 1, rows := ints l } = true := by
  simp [AObj.noI, ints, D.noIL, D.noI]
set_option maxRecDepth 20000 in
set_option maxHeartbeats 32000000 in
theorem c_EClose {L k : Nat} {M : Mv} (h : MOk L k M) (hk : 1 ≤ k ∧ k ≤ 2000) (st : Nat) (F : List Bool) (f : Bool) (l : List Int) (hl : l.length ≤ 100000) (hR : ∀ s, (M.getD s []).length ≤ 1000) :
    Contract Try.prog 71 [nfaD L st F M, .sl f (ints l)] (.sl false (ints (cloL M l))) [] := by
  refine contract_of_awp (rs := [4]) Try.func71 rfl Try.ntmps71 (by simp) rfl fun E => ?_
  have hkl := h.len
  have zb : List.replicate k (List.map ofAtom (Value.bool false).cells.toList) = bos (List.replicate k false) := by simp only [bos, List.map_replicate]; rfl
  have zb2 : List.replicate (k : Int).toNat [D.v (Value.bool false)] = bos (List.replicate k false) := by simp [bos]
  have hcnt : ∀ b : List Bool, b.length = M.length → b.count true ≤ k := fun b hb => by
    have := List.count_le_length (a := true) (l := b)
    omega
  ((repeat (first | refine awp_seq ?_ | refine awp_block ?_)); ((first | refine awp_skip ?_ | refine awp_exit ?_ | refine awp_reg ttok ?_ | (refine awp_draw ttok ?dr_calm ?_; (case dr_calm => decide +kernel)) | refine awp_condM ?_); simp (maxSteps := 4000000) only [↓reduceIte, Nat.reduceLT, Nat.reduceEqDiff, reduceCtorEq, Nat.reduceAdd, Nat.reduceMul, Int.reduceLE, Int.reduceLT, Int.reduceToNat, Nat.reduceLeDiff, Nat.reduceSub, Int.reduceEq, Nat.reduceBEq, evB, tyA, nfaD, mmv_len, hkl, zb, zb2]; (repeat (with_reducible refine And.intro ?_ ?_; exact sdX)); (with_reducible first | refine awp_id ?_ | refine id_call ?_ | refine id_and ?_ | refine id_ex ?_ | refine id_all ?_ | refine id_nat ?_ | refine id_le ?_)))
  ((repeat (first | refine awp_seq ?_ | refine awp_block ?_)); ((first | refine awp_skip ?_ | refine awp_exit ?_ | refine awp_reg ttok ?_ | (refine awp_draw ttok ?dr_calm ?_; (case dr_calm => decide +kernel)) | refine awp_condM ?_); simp (maxSteps := 4000000) only [↓reduceIte, Nat.reduceLT, Nat.reduceEqDiff, reduceCtorEq, Nat.reduceAdd, Nat.reduceMul, Int.reduceLE, Int.reduceLT, Int.reduceToNat, Nat.reduceLeDiff, Nat.reduceSub, Int.reduceEq, Nat.reduceBEq, evB, tyA, mmv_len, hkl, zb, zb2]; (repeat (with_reducible refine And.intro ?_ ?_; exact sdX)); (with_reducible first | refine awp_id ?_ | refine id_call ?_ | refine id_and ?_ | refine id_ex ?_ | refine id_all ?_ | refine id_nat ?_ | refine id_le ?_)))
  ((repeat (first | refine awp_seq ?_ | refine awp_block ?_)); ((first | refine awp_skip ?_ | refine awp_exit ?_ | refine awp_reg ttok ?_ | (refine awp_draw ttok ?dr_calm ?_; (case dr_calm => decide +kernel)) | refine awp_condM ?_); simp (maxSteps := 4000000) only [↓reduceIte, Nat.reduceLT, Nat.reduceEqDiff, reduceCtorEq, Nat.reduceAdd, Nat.reduceMul, Int.reduceLE, Int.reduceLT, Int.reduceToNat, Nat.reduceLeDiff, Nat.reduceSub, Int.reduceEq, Nat.reduceBEq, evB, tyA]; (repeat (with_reducible refine And.intro ?_ ?_; exact sdX)); (with_reducible first | refine awp_id ?_ | refine id_call ?_ | refine id_and ?_ | refine id_ex ?_ | refine id_all ?_ | refine id_nat ?_ | refine id_le ?_)))
  refine awp_own_nil 6 90000 1 evX (by decide) ?_
  (repeat (first | refine awp_seq ?_ | refine awp_block ?_ | ((first | refine awp_skip ?_ | refine awp_exit ?_ | refine awp_reg ttok ?_ | (refine awp_draw ttok ?dr_calm ?_; (case dr_calm => decide +kernel)) | refine awp_condM ?_); simp (maxSteps := 4000000) only [↓reduceIte, Nat.reduceLT, Nat.reduceEqDiff, reduceCtorEq, Nat.reduceAdd, Nat.reduceMul, Int.reduceLE, Int.reduceLT, Int.reduceToNat, Nat.reduceLeDiff, Nat.reduceSub, Int.reduceEq, Nat.reduceBEq, evB, tyA, St.toOwn]; (repeat (with_reducible refine And.intro ?_ ?_; exact sdX)); (with_reducible first | refine awp_id ?_ | refine id_call ?_ | refine id_and ?_ | refine id_ex ?_ | refine id_all ?_ | refine id_nat ?_ | refine id_le ?_))))
  refine awp_loop (X := Nat × List Bool × List Int) (fun x => mkS 113 [(2, .ptr 1000 0 0), (5, .own 2003 0 k), (6, .own 90000 0 x.2.2.length), (17, .sl f (ints l)), (18, i64 l.length), (19, i64 x.1)]
      [(1000, { sz := 4, rows := [[i64 L, i64 st, .sl false (bos F), .sl false (mmv M)]], flat := false }), (2003, { sz := 1, rows := bos x.2.1 }), (90000, { sz := 1, rows := ints x.2.2 })]) (fun x => x.1 ≤ l.length ∧ CI M l x.1 none x.2.1 x.2.2 x.2.2) (fun x => l.length - x.1) (0, List.replicate M.length false, []) ⟨Nat.zero_le _, CI.init M l⟩ (mkS_le rfl ?_ ?_) ?_
  · simp (maxSteps := 4000000) only [↓reduceIte, Nat.reduceLT, Nat.reduceEqDiff, reduceCtorEq, Nat.reduceAdd, Nat.reduceMul, Int.reduceLE, Int.reduceLT, Int.reduceToNat, Nat.reduceLeDiff, Nat.reduceSub, Int.reduceEq, Nat.reduceBEq, evB, List.length_nil]
    try rfl
  · simp (maxSteps := 4000000) only [↓reduceIte, Nat.reduceLT, Nat.reduceEqDiff, reduceCtorEq, Nat.reduceAdd, Nat.reduceMul, Int.reduceLE, Int.reduceLT, Int.reduceToNat, Nat.reduceLeDiff, Nat.reduceSub, Int.reduceEq, Nat.reduceBEq, evB, hkl, ints, List.map_nil]
    try rfl
  · rintro ⟨i, seen, o⟩ ⟨hi, hC⟩
    simp only at hi hC ⊢
    have hsl := hC.len
    have hol := hC.out_le
    have hsc := hcnt seen hsl
    by_cases hlt : i < l.length
    · have d1 : decide ((i : Int) < (l.length : Int)) = true := by simpa using hlt
      have hwi : IntKind.i64.wrap ((i : Int) + 1) = ((i + 1 : Nat) : Int) := i64_in (by omega) (by omega)
      have hgw := ints_get hlt
      have hskip := fun hc => hC.base_skip hc
      have hadd := fun x => hC.base_add hlt (x := x)
      generalize l.getD i 0 = z at *
      by_cases hz0 : z < 0
      · have e1 : decide (z ≥ 0) = false := by simpa using hz0
        (repeat (first | refine awp_seq ?_ | refine awp_block ?_ | ((first | refine awp_skip ?_ | refine awp_exit ?_ | refine awp_reg ttok ?_ | (refine awp_draw ttok ?dr_calm ?_; (case dr_calm => decide +kernel)) | refine awp_condM ?_); simp (maxSteps := 4000000) only [↓reduceIte, Nat.reduceLT, Nat.reduceEqDiff, reduceCtorEq, Nat.reduceAdd, Nat.reduceMul, Int.reduceLE, Int.reduceLT, Int.reduceToNat, Nat.reduceLeDiff, Nat.reduceSub, Int.reduceEq, Nat.reduceBEq, evB, tyA, d1, hgw, e1, hwi]; (repeat (with_reducible refine And.intro ?_ ?_; exact sdX)); (with_reducible first | refine awp_id ?_ | refine id_call ?_ | refine id_and ?_ | refine id_ex ?_ | refine id_all ?_ | refine id_nat ?_ | refine id_le ?_))))
        refine ⟨(i + 1, seen, o), ⟨by simp only; omega, hskip fun x q => by omega⟩, by simp only; omega, mkS_le rfl ?_ ?_⟩
        · exact evX
        · exact evX
      · have e1 : decide (z ≥ 0) = true := by simpa using hz0
        obtain ⟨x, rfl⟩ := Int.eq_ofNat_of_zero_le (show 0 ≤ z by omega)
        by_cases hxk : x < k
        · have e2 : decide ((x : Int) < (k : Int)) = true := by simpa using hxk
          have hgs := bos_get (l := seen) (i := x) (by omega)
          cases hsx : seen.getD x false
          · rw [hsx] at hgs
            have hot : List.take o.length o = o := List.take_of_length_le (Nat.le_refl _)
            have hr2 : ∀ z : Int, (∀ row ∈ [[D.v (Value.int IntKind.i64 z)]], row.length = 1) = True := fun z => by simp
            have hse : (bos seen).set x [D.v (Value.bool true)] = bos (seen.set x true) := by simp [bos]
            have hl2 : (seen.set x true).length = k := by simp; omega
            have hC2 := hadd x rfl (by omega) hsx
            (repeat (first | refine awp_seq ?_ | refine awp_block ?_ | ((first | refine awp_skip ?_ | refine awp_exit ?_ | refine awp_reg ttok ?_ | (refine awp_draw ttok ?dr_calm ?_; (case dr_calm => decide +kernel)) | refine awp_condM ?_); simp (maxSteps := 4000000) only [↓reduceIte, Nat.reduceLT, Nat.reduceEqDiff, reduceCtorEq, Nat.reduceAdd, Nat.reduceMul, Int.reduceLE, Int.reduceLT, Int.reduceToNat, Nat.reduceLeDiff, Nat.reduceSub, Int.reduceEq, Nat.reduceBEq, evB, tyA, d1, hgw, e1, bos_len, hsl, hkl, e2, hgs, hwi, hse, ints_len, ints_take, hot, ints_one, ints_app, hr2]; (repeat (with_reducible refine And.intro ?_ ?_; exact sdX)); (with_reducible first | refine awp_id ?_ | refine id_call ?_ | refine id_and ?_ | refine id_ex ?_ | refine id_all ?_ | refine id_nat ?_ | refine id_le ?_))))
            refine ⟨(i + 1, seen.set x true, o ++ [(x : Int)]), ⟨by simp only; omega, hC2⟩, by simp only; omega, mkS_le rfl ?_ ?_⟩
            · simp (maxSteps := 4000000) only [↓reduceIte, Nat.reduceLT, Nat.reduceEqDiff, reduceCtorEq, Nat.reduceAdd, Nat.reduceMul, Int.reduceLE, Int.reduceLT, Int.reduceToNat, Nat.reduceLeDiff, Nat.reduceSub, Int.reduceEq, Nat.reduceBEq, evB, List.length_append]
            · simp (maxSteps := 4000000) only [↓reduceIte, Nat.reduceLT, Nat.reduceEqDiff, reduceCtorEq, Nat.reduceAdd, Nat.reduceMul, Int.reduceLE, Int.reduceLT, Int.reduceToNat, Nat.reduceLeDiff, Nat.reduceSub, Int.reduceEq, Nat.reduceBEq, evB, hse, ints_one, ints_app, ints_take, hot]
          · rw [hsx] at hgs
            (repeat (first | refine awp_seq ?_ | refine awp_block ?_ | ((first | refine awp_skip ?_ | refine awp_exit ?_ | refine awp_reg ttok ?_ | (refine awp_draw ttok ?dr_calm ?_; (case dr_calm => decide +kernel)) | refine awp_condM ?_); simp (maxSteps := 4000000) only [↓reduceIte, Nat.reduceLT, Nat.reduceEqDiff, reduceCtorEq, Nat.reduceAdd, Nat.reduceMul, Int.reduceLE, Int.reduceLT, Int.reduceToNat, Nat.reduceLeDiff, Nat.reduceSub, Int.reduceEq, Nat.reduceBEq, evB, tyA, d1, hgw, e1, bos_len, hsl, hkl, e2, hgs, hwi]; (repeat (with_reducible refine And.intro ?_ ?_; exact sdX)); (with_reducible first | refine awp_id ?_ | refine id_call ?_ | refine id_and ?_ | refine id_ex ?_ | refine id_all ?_ | refine id_nat ?_ | refine id_le ?_))))
            refine ⟨(i + 1, seen, o), ⟨by simp only; omega, hskip fun y q _ => by rw [← Int.ofNat_inj.1 q]; exact hsx⟩, by simp only; omega, mkS_le rfl ?_ ?_⟩
            · exact evX
            · exact evX
        · have e2 : decide ((x : Int) < (k : Int)) = false := by simpa using hxk
          (repeat (first | refine awp_seq ?_ | refine awp_block ?_ | ((first | refine awp_skip ?_ | refine awp_exit ?_ | refine awp_reg ttok ?_ | (refine awp_draw ttok ?dr_calm ?_; (case dr_calm => decide +kernel)) | refine awp_condM ?_); simp (maxSteps := 4000000) only [↓reduceIte, Nat.reduceLT, Nat.reduceEqDiff, reduceCtorEq, Nat.reduceAdd, Nat.reduceMul, Int.reduceLE, Int.reduceLT, Int.reduceToNat, Nat.reduceLeDiff, Nat.reduceSub, Int.reduceEq, Nat.reduceBEq, evB, tyA, d1, hgw, e1, bos_len, hsl, hkl, e2, hwi]; (repeat (with_reducible refine And.intro ?_ ?_; exact sdX)); (with_reducible first | refine awp_id ?_ | refine id_call ?_ | refine id_and ?_ | refine id_ex ?_ | refine id_all ?_ | refine id_nat ?_ | refine id_le ?_))))
          refine ⟨(i + 1, seen, o), ⟨by simp only; omega, hskip fun y q q2 => by have := Int.ofNat_inj.1 q; omega⟩, by simp only; omega, mkS_le rfl ?_ ?_⟩
          · exact evX
          · exact evX
    · have d1 : decide ((i : Int) < (l.length : Int)) = false := by simpa using hlt
      obtain rfl : i = l.length := by omega
      (repeat (first | refine awp_seq ?_ | refine awp_block ?_ | ((first | refine awp_skip ?_ | refine awp_exit ?_ | refine awp_reg ttok ?_ | (refine awp_draw ttok ?dr_calm ?_; (case dr_calm => decide +kernel)) | refine awp_condM ?_); simp (maxSteps := 4000000) only [↓reduceIte, Nat.reduceLT, Nat.reduceEqDiff, reduceCtorEq, Nat.reduceAdd, Nat.reduceMul, Int.reduceLE, Int.reduceLT, Int.reduceToNat, Nat.reduceLeDiff, Nat.reduceSub, Int.reduceEq, Nat.reduceBEq, evB, tyA, d1]; (repeat (with_reducible refine And.intro ?_ ?_; exact sdX)); (with_reducible first | refine awp_id ?_ | refine id_call ?_ | refine id_and ?_ | refine id_ex ?_ | refine id_all ?_ | refine id_nat ?_ | refine id_le ?_))))
      have hot : List.take o.length o = o := List.take_of_length_le (Nat.le_refl _)
      have hcl := c_CloneI false o (by omega)
      rw [hot]
      refine callVC_own fnok66 hcl rfl rfl (by simp only [List.all_cons, noI_intsE, List.all_nil, Bool.and_self]) ?_
      simp (maxSteps := 4000000) only [↓reduceIte, Nat.reduceLT, Nat.reduceEqDiff, reduceCtorEq, Nat.reduceAdd, Nat.reduceMul, Int.reduceLE, Int.reduceLT, Int.reduceToNat, Nat.reduceLeDiff, Nat.reduceSub, Int.reduceEq, Nat.reduceBEq, evB, tyA]
      (repeat (with_reducible refine And.intro ?_ ?_; exact sdX))
      (repeat (first | refine awp_seq ?_ | refine awp_block ?_ | ((first | refine awp_skip ?_ | refine awp_exit ?_ | refine awp_reg ttok ?_ | (refine awp_draw ttok ?dr_calm ?_; (case dr_calm => decide +kernel)) | refine awp_condM ?_); simp (maxSteps := 4000000) only [↓reduceIte, Nat.reduceLT, Nat.reduceEqDiff, reduceCtorEq, Nat.reduceAdd, Nat.reduceMul, Int.reduceLE, Int.reduceLT, Int.reduceToNat, Nat.reduceLeDiff, Nat.reduceSub, Int.reduceEq, Nat.reduceBEq, evB, tyA]; (repeat (with_reducible refine And.intro ?_ ?_; exact sdX)); (with_reducible first | refine awp_id ?_ | refine id_call ?_ | refine id_and ?_ | refine id_ex ?_ | refine id_all ?_ | refine id_nat ?_ | refine id_le ?_))))
      refine awp_loop (X := List Bool × List Int × List Int × List Int) (fun x => mkS 113 [(2, .ptr 1000 0 0), (5, .own 2003 0 k), (6, .own 90000 0 x.2.1.length), (9, .own 111001 0 x.2.2.2.length)]
          [(1000, { sz := 4, rows := [[i64 L, i64 st, .sl false (bos F), .sl false (mmv M)]], flat := false }), (2003, { sz := 1, rows := bos x.1 }), (90000, { sz := 1, rows := ints (x.2.1 ++ x.2.2.1) }), (111001, { sz := 1, rows := ints x.2.2.2 })]) (fun x => CI M l l.length none x.1 x.2.1 x.2.2.2) (fun x => 2 * (k - x.2.2.2.length) + x.2.1.length) (seen, o, [], o) hC (mkS_le rfl ?_ ?_) ?_
      · simp (maxSteps := 4000000) only [↓reduceIte, Nat.reduceLT, Nat.reduceEqDiff, reduceCtorEq, Nat.reduceAdd, Nat.reduceMul, Int.reduceLE, Int.reduceLT, Int.reduceToNat, Nat.reduceLeDiff, Nat.reduceSub, Int.reduceEq, Nat.reduceBEq, evB]
        try rfl
      · simp (maxSteps := 4000000) only [↓reduceIte, Nat.reduceLT, Nat.reduceEqDiff, reduceCtorEq, Nat.reduceAdd, Nat.reduceMul, Int.reduceLE, Int.reduceLT, Int.reduceToNat, Nat.reduceLeDiff, Nat.reduceSub, Int.reduceEq, Nat.reduceBEq, evB, List.append_nil]
        try rfl
      · rintro ⟨sn, td, rs, ot⟩ hC
        simp only at hC ⊢
        have hsl := hC.len
        have hol := hC.out_le
        have hsc := hcnt sn hsl
        by_cases hne : td = []
        · subst hne
          have e0 : decide ((((0 : Nat)) : Int) > 0) = false := by simp
          (repeat (first | refine awp_seq ?_ | refine awp_block ?_ | ((first | refine awp_skip ?_ | refine awp_exit ?_ | refine awp_reg ttok ?_ | (refine awp_draw ttok ?dr_calm ?_; (case dr_calm => decide +kernel)) | refine awp_condM ?_); simp (maxSteps := 4000000) only [↓reduceIte, Nat.reduceLT, Nat.reduceEqDiff, reduceCtorEq, Nat.reduceAdd, Nat.reduceMul, Int.reduceLE, Int.reduceLT, Int.reduceToNat, Nat.reduceLeDiff, Nat.reduceSub, Int.reduceEq, Nat.reduceBEq, evB, tyA, List.length_nil, e0]; (repeat (with_reducible refine And.intro ?_ ?_; exact sdX)); (with_reducible first | refine awp_id ?_ | refine id_call ?_ | refine id_and ?_ | refine id_ex ?_ | refine id_all ?_ | refine id_nat ?_ | refine id_le ?_))))
          have hres := hC.end_ h
          have hsl := sortI_len ot
          have hcS := c_SortI ot (by omega)
          refine callVC_M [111001] fnok87 hcS (by simp (maxSteps := 4000000) only [↓reduceIte, Nat.reduceLT, Nat.reduceEqDiff, reduceCtorEq, Nat.reduceAdd, Nat.reduceMul, Int.reduceLE, Int.reduceLT, Int.reduceToNat, Nat.reduceLeDiff, Nat.reduceSub, Int.reduceEq, Nat.reduceBEq, evB]; rfl) evX ?_
          simp (maxSteps := 4000000) only [↓reduceIte, Nat.reduceLT, Nat.reduceEqDiff, reduceCtorEq, Nat.reduceAdd, Nat.reduceMul, Int.reduceLE, Int.reduceLT, Int.reduceToNat, Nat.reduceLeDiff, Nat.reduceSub, Int.reduceEq, Nat.reduceBEq, evB, tyA, ints_len]
          (repeat (with_reducible refine And.intro ?_ ?_; exact sdX))
          (repeat (first | refine awp_seq ?_ | refine awp_block ?_ | ((first | refine awp_skip ?_ | refine awp_exit ?_ | refine awp_reg ttok ?_ | (refine awp_draw ttok ?dr_calm ?_; (case dr_calm => decide +kernel)) | refine awp_condM ?_); simp (maxSteps := 4000000) only [↓reduceIte, Nat.reduceLT, Nat.reduceEqDiff, reduceCtorEq, Nat.reduceAdd, Nat.reduceMul, Int.reduceLE, Int.reduceLT, Int.reduceToNat, Nat.reduceLeDiff, Nat.reduceSub, Int.reduceEq, Nat.reduceBEq, evB, tyA]; (repeat (with_reducible refine And.intro ?_ ?_; exact sdX)); (with_reducible first | refine awp_id ?_ | refine id_call ?_ | refine id_and ?_ | refine id_ex ?_ | refine id_all ?_ | refine id_nat ?_ | refine id_le ?_))))
          rw [← hsl, hres]
          refine awp_pure 4 (d := .own 111001 0 (cloL M l).length) evX (by simp (maxSteps := 4000000) only [↓reduceIte, Nat.reduceLT, Nat.reduceEqDiff, reduceCtorEq, Nat.reduceAdd, Nat.reduceMul, Int.reduceLE, Int.reduceLT, Int.reduceToNat, Nat.reduceLeDiff, Nat.reduceSub, Int.reduceEq, Nat.reduceBEq, evB]; rfl) (by simp (maxSteps := 4000000) only [↓reduceIte, Nat.reduceLT, Nat.reduceEqDiff, reduceCtorEq, Nat.reduceAdd, Nat.reduceMul, Int.reduceLE, Int.reduceLT, Int.reduceToNat, Nat.reduceLeDiff, Nat.reduceSub, Int.reduceEq, Nat.reduceBEq, evB, ints_len]) ?_
          have hct : List.take (cloL M l).length (cloL M l) = cloL M l := List.take_of_length_le (Nat.le_refl _)
          exact awp_ret (ends_plain (.inr rfl) rfl (by simp (maxSteps := 4000000) only [↓reduceIte, Nat.reduceLT, Nat.reduceEqDiff, reduceCtorEq, Nat.reduceAdd, Nat.reduceMul, Int.reduceLE, Int.reduceLT, Int.reduceToNat, Nat.reduceLeDiff, Nat.reduceSub, Int.reduceEq, Nat.reduceBEq, evB, ints_take, hct]))
        · obtain ⟨td2, z, rfl⟩ : ∃ a b, td = a ++ [b] := ⟨_, _, (List.dropLast_concat_getLast hne).symm⟩
          have hzo := hC.tod z (by simp)
          obtain ⟨s, rfl, hss⟩ := (hC.mem z).1 hzo
          have hse := hC.er s hss
          have hsM := hse.lt
          have hC2 := hC.pop
          have htd := hC.todo_le
          have htl : (td2 ++ [(s : Int)]).length = td2.length + 1 := by simp
          rw [htl] at htd
          rw [htl]
          have e0 : decide (((td2.length + 1 : Nat) : Int) > 0) = true := by rw [decide_eq_true_eq]; omega
          have w1 : IntKind.i64.wrap (((td2.length + 1 : Nat) : Int) - 1) = (td2.length : Int) := by rw [i64_in (by omega) (by omega)]; omega
          have hgt : (ints (td2 ++ [(s : Int)] ++ rs)).getD td2.length [] = [i64 s] := by
            rw [ints_get (by simp)]
            simp [List.getD]
          have hgm := mmv_get (M := M) (i := s) hsM
          have hrl := hR s
          have hrb := h.get s
          (repeat (first | refine awp_seq ?_ | refine awp_block ?_ | ((first | refine awp_skip ?_ | refine awp_exit ?_ | refine awp_reg ttok ?_ | (refine awp_draw ttok ?dr_calm ?_; (case dr_calm => decide +kernel)) | refine awp_condM ?_); simp (maxSteps := 4000000) only [↓reduceIte, Nat.reduceLT, Nat.reduceEqDiff, reduceCtorEq, Nat.reduceAdd, Nat.reduceMul, Int.reduceLE, Int.reduceLT, Int.reduceToNat, Nat.reduceLeDiff, Nat.reduceSub, Int.reduceEq, Nat.reduceBEq, evB, tyA, e0, w1, hgt, ints_len, List.length_append, hgm, mvs_len, mmv_len]; (repeat (with_reducible refine And.intro ?_ ?_; exact sdX)); (with_reducible first | refine awp_id ?_ | refine id_call ?_ | refine id_and ?_ | refine id_ex ?_ | refine id_all ?_ | refine id_nat ?_ | refine id_le ?_))))
          obtain ⟨r, hr⟩ : ∃ r, r = M.getD s [] := ⟨_, rfl⟩
          rw [← hr] at hgm hrl hrb ⊢
          refine awp_loop (X := Nat × List Bool × List Int × List Int × List Int) (fun x => mkS 113 [(2, .ptr 1000 0 0), (5, .own 2003 0 k), (6, .own 90000 0 x.2.2.1.length), (9, .own 111001 0 x.2.2.2.2.length), (66, .sl false (mvs r)), (67, i64 r.length), (68, i64 x.1)]
            [(1000, { sz := 4, rows := [[i64 L, i64 st, .sl false (bos F), .sl false (mmv M)]], flat := false }), (2003, { sz := 1, rows := bos x.2.1 }), (90000, { sz := 1, rows := ints (x.2.2.1 ++ x.2.2.2.1) }), (111001, { sz := 1, rows := ints x.2.2.2.2 })]) (fun x => x.1 ≤ r.length ∧ CI M l l.length (some (s, x.1)) x.2.1 x.2.2.1 x.2.2.2.2 ∧ 2 * (k - x.2.2.2.2.length) + x.2.2.1.length ≤ 2 * (k - ot.length) + td2.length) (fun x => r.length - x.1) (0, sn, td2, [(s : Int)] ++ rs, ot) ⟨Nat.zero_le _, hC2, Nat.le_refl _⟩ (mkS_le rfl ?_ ?_) ?_
          · simp (maxSteps := 4000000) only [↓reduceIte, Nat.reduceLT, Nat.reduceEqDiff, reduceCtorEq, Nat.reduceAdd, Nat.reduceMul, Int.reduceLE, Int.reduceLT, Int.reduceToNat, Nat.reduceLeDiff, Nat.reduceSub, Int.reduceEq, Nat.reduceBEq, evB]
            try rfl
          · simp (maxSteps := 4000000) only [↓reduceIte, Nat.reduceLT, Nat.reduceEqDiff, reduceCtorEq, Nat.reduceAdd, Nat.reduceMul, Int.reduceLE, Int.reduceLT, Int.reduceToNat, Nat.reduceLeDiff, Nat.reduceSub, Int.reduceEq, Nat.reduceBEq, evB, List.append_assoc]
            try rfl
          · rintro ⟨j, sn, td, rs, ot2⟩ ⟨hj, hC, hms⟩
            simp only at hj hC hms ⊢
            have hsl := hC.len
            have hol := hC.out_le
            have htd := hC.todo_le
            have hsc := hcnt sn hsl
            by_cases hjlt : j < r.length
            · have d2 : decide ((j : Int) < (r.length : Int)) = true := by simpa using hjlt
              have hwj : IntKind.i64.wrap ((j : Int) + 1) = ((j + 1 : Nat) : Int) := i64_in (by omega) (by omega)
              have hgr := mvs_get hjlt
              have hskip := fun hc => hC.skip hc
              have hadd := fun t => hC.add2 (t := t) hse (by rw [← hr]; exact hjlt)
              have hmb := hrb (r.getD j (0, 0)) (by
                simp [List.getD, List.getElem?_eq_getElem hjlt])
              rw [← hr] at hskip hadd
              generalize r.getD j (0, 0) = m at *
              obtain ⟨m1, m2⟩ := m
              simp only at hgr hmb
              by_cases h1 : m1 = -1
              · subst h1
                have e1 : ((-1 : Int) == -1) = true := rfl
                obtain ⟨t, rfl⟩ := Int.eq_ofNat_of_zero_le hmb.2.2.1
                have e2 : decide ((t : Int) ≥ 0) = true := by simp
                have e3 : decide ((t : Int) < (k : Int)) = true := by simp; omega
                have hgs := bos_get (l := sn) (i := t) (by omega)
                cases hst : sn.getD t false
                · rw [hst] at hgs
                  have hC3 := hadd t rfl (by omega) hst
                  have hot := List.take_of_length_le (Nat.le_refl ot2.length)
                  have htt : List.take td.length (td ++ rs) = td := by simp
                  have hr2 : ∀ z : Int, (∀ row ∈ [[D.v (Value.int IntKind.i64 z)]], row.length = 1) = True := fun z => by simp
                  have hse2 : (bos sn).set t [D.v (Value.bool true)] = bos (sn.set t true) := by simp [bos]
                  have hol2 := hC3.out_le
                  have hsc2 := hcnt _ hC3.len
                  rw [List.length_append, List.length_singleton] at hol2
                  (repeat (first | refine awp_seq ?_ | refine awp_block ?_ | ((first | refine awp_skip ?_ | refine awp_exit ?_ | refine awp_reg ttok ?_ | (refine awp_draw ttok ?dr_calm ?_; (case dr_calm => decide +kernel)) | refine awp_condM ?_); simp (maxSteps := 4000000) only [↓reduceIte, Nat.reduceLT, Nat.reduceEqDiff, reduceCtorEq, Nat.reduceAdd, Nat.reduceMul, Int.reduceLE, Int.reduceLT, Int.reduceToNat, Nat.reduceLeDiff, Nat.reduceSub, Int.reduceEq, Nat.reduceBEq, evB, tyA, d2, hgr, mvs_len, e1, e2, e3, bos_len, hsl, hkl, hgs, hse2]; (repeat (with_reducible refine And.intro ?_ ?_; exact sdX)); (with_reducible first | refine awp_id ?_ | refine id_call ?_ | refine id_and ?_ | refine id_ex ?_ | refine id_all ?_ | refine id_nat ?_ | refine id_le ?_))))
                  refine awp_drawS ttok (mkS 113 [(2, .ptr 1000 0 0), (5, .own 2003 0 k), (6, .own 90000 0 (td.length + 1)), (9, .own 111001 0 (ot2.length + 1)), (66, .sl false (mvs r)), (67, i64 r.length), (68, i64 j)]
                    [(1000, { sz := 4, rows := [[i64 L, i64 st, .sl false (bos F), .sl false (mmv M)]], flat := false }), (2003, { sz := 1, rows := bos (sn.set t true) }), (90000, { sz := 1, rows := ints (td ++ [(t : Int)]) }), (111001, { sz := 1, rows := ints (ot2 ++ [(t : Int)]) })]) (.nd 3 8 .lf (.nd 4 8 .lf .lf)) [((0, none) :: (1, none) :: (2, none) :: (5, none) :: (6, none) :: (7, none) :: (8, some [0, 1, 2, 5]) :: (3, some [0, 5]) :: (4, some [5]) :: (9, some []) :: (10, none) :: (11, none) :: []), ((0, none) :: (1, none) :: (2, none) :: (5, none) :: (6, none) :: (7, none) :: (3, some [0, 5, 6, 7]) :: (8, some [0, 5]) :: (4, some [5]) :: (9, some []) :: (10, none) :: (11, none) :: []), ((0, none) :: (1, none) :: (2, none) :: (5, none) :: (6, none) :: (7, none) :: (3, some [0, 5, 6, 7]) :: (4, some [5, 6, 7]) :: (8, some [5]) :: (9, some []) :: (10, none) :: (11, none) :: [])] [0, 1, 2, 5, 6, 7, 3, 4, 8, 9, 10, 11] [0, 1, 2, 3, 4, 5, 6, 7, 8, 9, 10, 11] [0, 1, 2, 3, 4, 5, 6, 7, 8, 9, 10, 11] (by decide +kernel) ?_ (fun O hO => ?_)
                  rotate_left
                  · simp only [OpsAre, Nat.reduceAdd, and_true] at hO
                    simp only [aopsS_cons, aopsS_nil, and_true]
                    repeat' apply And.intro
                    all_goals
                      simp (maxSteps := 4000000) only [↓reduceIte, Nat.reduceLT, Nat.reduceEqDiff, reduceCtorEq, Nat.reduceAdd, Nat.reduceMul, Int.reduceLE, Int.reduceLT, Int.reduceToNat, Nat.reduceLeDiff, Nat.reduceSub, Int.reduceEq, Nat.reduceBEq, evB, tyA, hO, ints_len, List.length_append, ints_take, htt, hot, ints_one, ints_app, hr2]; (repeat (with_reducible refine And.intro ?_ ?_; exact sdX))
                      refine mkS_le rfl ?_ ?_
                      · exact evX
                      · simp (maxSteps := 4000000) only [↓reduceIte, Nat.reduceLT, Nat.reduceEqDiff, reduceCtorEq, Nat.reduceAdd, Nat.reduceMul, Int.reduceLE, Int.reduceLT, Int.reduceToNat, Nat.reduceLeDiff, Nat.reduceSub, Int.reduceEq, Nat.reduceBEq, evB, hse2, ints_take, htt, hot, ints_one, ints_app]
                  · (repeat (first | refine awp_seq ?_ | refine awp_block ?_ | ((first | refine awp_skip ?_ | refine awp_exit ?_ | refine awp_reg ttok ?_ | (refine awp_draw ttok ?dr_calm ?_; (case dr_calm => decide +kernel)) | refine awp_condM ?_); simp (maxSteps := 4000000) only [↓reduceIte, Nat.reduceLT, Nat.reduceEqDiff, reduceCtorEq, Nat.reduceAdd, Nat.reduceMul, Int.reduceLE, Int.reduceLT, Int.reduceToNat, Nat.reduceLeDiff, Nat.reduceSub, Int.reduceEq, Nat.reduceBEq, evB, tyA, hwj]; (repeat (with_reducible refine And.intro ?_ ?_; exact sdX)); (with_reducible first | refine awp_id ?_ | refine id_call ?_ | refine id_and ?_ | refine id_ex ?_ | refine id_all ?_ | refine id_nat ?_ | refine id_le ?_))))
                    refine ⟨(j + 1, sn.set t true, td ++ [(t : Int)], [], ot2 ++ [(t : Int)]), ⟨by simp only; omega, hC3, by simp only [List.length_append, List.length_singleton]; omega⟩, by simp only; omega, mkS_le rfl ?_ ?_⟩
                    · simp (maxSteps := 4000000) only [↓reduceIte, Nat.reduceLT, Nat.reduceEqDiff, reduceCtorEq, Nat.reduceAdd, Nat.reduceMul, Int.reduceLE, Int.reduceLT, Int.reduceToNat, Nat.reduceLeDiff, Nat.reduceSub, Int.reduceEq, Nat.reduceBEq, evB, List.length_append]
                    · simp (maxSteps := 4000000) only [↓reduceIte, Nat.reduceLT, Nat.reduceEqDiff, reduceCtorEq, Nat.reduceAdd, Nat.reduceMul, Int.reduceLE, Int.reduceLT, Int.reduceToNat, Nat.reduceLeDiff, Nat.reduceSub, Int.reduceEq, Nat.reduceBEq, evB, List.append_nil]
                · rw [hst] at hgs
                  (repeat (first | refine awp_seq ?_ | refine awp_block ?_ | ((first | refine awp_skip ?_ | refine awp_exit ?_ | refine awp_reg ttok ?_ | (refine awp_draw ttok ?dr_calm ?_; (case dr_calm => decide +kernel)) | refine awp_condM ?_); simp (maxSteps := 4000000) only [↓reduceIte, Nat.reduceLT, Nat.reduceEqDiff, reduceCtorEq, Nat.reduceAdd, Nat.reduceMul, Int.reduceLE, Int.reduceLT, Int.reduceToNat, Nat.reduceLeDiff, Nat.reduceSub, Int.reduceEq, Nat.reduceBEq, evB, tyA, d2, hgr, mvs_len, e1, e2, e3, bos_len, hsl, hkl, hgs, hwj]; (repeat (with_reducible refine And.intro ?_ ?_; exact sdX)); (with_reducible first | refine awp_id ?_ | refine id_call ?_ | refine id_and ?_ | refine id_ex ?_ | refine id_all ?_ | refine id_nat ?_ | refine id_le ?_))))
                  refine ⟨(j + 1, sn, td, rs, ot2), ⟨by simp only; omega, hskip fun t2 q _ => by have := Int.ofNat_inj.1 (Prod.mk.inj q).2; rw [← this]; exact hst, hms⟩, by simp only; omega, mkS_le rfl ?_ ?_⟩
                  · exact evX
                  · exact evX
              · have e1 : (m1 == -1) = false := by simpa using h1
                (repeat (first | refine awp_seq ?_ | refine awp_block ?_ | ((first | refine awp_skip ?_ | refine awp_exit ?_ | refine awp_reg ttok ?_ | (refine awp_draw ttok ?dr_calm ?_; (case dr_calm => decide +kernel)) | refine awp_condM ?_); simp (maxSteps := 4000000) only [↓reduceIte, Nat.reduceLT, Nat.reduceEqDiff, reduceCtorEq, Nat.reduceAdd, Nat.reduceMul, Int.reduceLE, Int.reduceLT, Int.reduceToNat, Nat.reduceLeDiff, Nat.reduceSub, Int.reduceEq, Nat.reduceBEq, evB, tyA, d2, hgr, mvs_len, e1, hwj]; (repeat (with_reducible refine And.intro ?_ ?_; exact sdX)); (with_reducible first | refine awp_id ?_ | refine id_call ?_ | refine id_and ?_ | refine id_ex ?_ | refine id_all ?_ | refine id_nat ?_ | refine id_le ?_))))
                refine ⟨(j + 1, sn, td, rs, ot2), ⟨by simp only; omega, hskip fun t q _ => absurd (Prod.mk.inj q).1 h1, hms⟩, by simp only; omega, mkS_le rfl ?_ ?_⟩
                · exact evX
                · exact evX
            · have d2 : decide ((j : Int) < (r.length : Int)) = false := by simpa using hjlt
              obtain rfl : j = r.length := by omega
              rw [hr] at hC
              (repeat (first | refine awp_seq ?_ | refine awp_block ?_ | ((first | refine awp_skip ?_ | refine awp_exit ?_ | refine awp_reg ttok ?_ | (refine awp_draw ttok ?dr_calm ?_; (case dr_calm => decide +kernel)) | refine awp_condM ?_); simp (maxSteps := 4000000) only [↓reduceIte, Nat.reduceLT, Nat.reduceEqDiff, reduceCtorEq, Nat.reduceAdd, Nat.reduceMul, Int.reduceLE, Int.reduceLT, Int.reduceToNat, Nat.reduceLeDiff, Nat.reduceSub, Int.reduceEq, Nat.reduceBEq, evB, tyA, d2]; (repeat (with_reducible refine And.intro ?_ ?_; exact sdX)); (with_reducible first | refine awp_id ?_ | refine id_call ?_ | refine id_and ?_ | refine id_ex ?_ | refine id_all ?_ | refine id_nat ?_ | refine id_le ?_))))
              refine ⟨(sn, td, rs, ot2), hC.done, by simp only; omega, mkS_le rfl ?_ ?_⟩
              · exact evX
              · exact evX
theorem takS_snoc (M : Mv) (a : Int) : ∀ (u : List Int) (l : List Int), takS M l (u ++ [a]) = cloL M (stepL M (takS M l u) a)
  | [], l => rfl
  | b :: u, l => takS_snoc M a u _
theorem cloL_len (M : Mv) (l : List Int) : (cloL M l).length ≤ M.length := onL_len _ _
theorem takS_len (M : Mv) {l : List Int} (hl : l.length ≤ M.length) : ∀ u : List Int, (takS M l u).length ≤ M.length := fun u => by
  induction u generalizing l with
  | nil => exact hl
  | cons a u ih => exact ih (cloL_len M _)
def finP1 (F : List Bool) (s : Int) : Bool := decide (0 ≤ s) && decide (s < (F.length : Int)) && F.getD s.toNat false
theorem c_EFinal1 (L st : Nat) (F : List Bool) (M : Mv) (x : Int) : Contract Try.prog 89 [i64 x, .ref [i64 L, i64 st, .sl false (bos F), .sl false (mmv M)] 0] (bo (finP1 F x)) [] := by
  refine contract_of_awp (rs := [3]) Try.func89 rfl Try.ntmps89 (by simp) rfl fun E => ?_
  unfold finP1
  by_cases h0 : x < 0
  · have e1 : decide (x ≥ 0) = false := by simpa using h0
    have e1' : decide (0 ≤ x) = false := by simpa using h0
    (repeat (first | refine awp_seq ?_ | refine awp_block ?_ | ((first | refine awp_skip ?_ | refine awp_exit ?_ | refine awp_reg ttok ?_ | (refine awp_draw ttok ?dr_calm ?_; (case dr_calm => decide +kernel)) | refine awp_condM ?_); simp (maxSteps := 4000000) only [↓reduceIte, Nat.reduceLT, Nat.reduceEqDiff, reduceCtorEq, Nat.reduceAdd, Nat.reduceMul, Int.reduceLE, Int.reduceLT, Int.reduceToNat, Nat.reduceLeDiff, Nat.reduceSub, Int.reduceEq, Nat.reduceBEq, evB, tyA, e1]; (repeat (with_reducible refine And.intro ?_ ?_; exact sdX)); (with_reducible first | refine awp_id ?_ | refine id_call ?_ | refine id_and ?_ | refine id_ex ?_ | refine id_all ?_ | refine id_nat ?_ | refine id_le ?_))))
    exact awp_ret (ends_plain (.inr rfl) rfl (by simp (maxSteps := 4000000) only [↓reduceIte, Nat.reduceLT, Nat.reduceEqDiff, reduceCtorEq, Nat.reduceAdd, Nat.reduceMul, Int.reduceLE, Int.reduceLT, Int.reduceToNat, Nat.reduceLeDiff, Nat.reduceSub, Int.reduceEq, Nat.reduceBEq, evB, e1', Bool.false_and]))
  · obtain ⟨s, rfl⟩ := Int.eq_ofNat_of_zero_le (show 0 ≤ x by omega)
    have e1 : decide ((s : Int) ≥ 0) = true := by simp
    have e1' : decide (0 ≤ (s : Int)) = true := by simp
    by_cases h1 : s < F.length
    · have e2 : decide ((s : Int) < (F.length : Int)) = true := by simpa using h1
      have hg := bos_get h1
      (repeat (first | refine awp_seq ?_ | refine awp_block ?_ | ((first | refine awp_skip ?_ | refine awp_exit ?_ | refine awp_reg ttok ?_ | (refine awp_draw ttok ?dr_calm ?_; (case dr_calm => decide +kernel)) | refine awp_condM ?_); simp (maxSteps := 4000000) only [↓reduceIte, Nat.reduceLT, Nat.reduceEqDiff, reduceCtorEq, Nat.reduceAdd, Nat.reduceMul, Int.reduceLE, Int.reduceLT, Int.reduceToNat, Nat.reduceLeDiff, Nat.reduceSub, Int.reduceEq, Nat.reduceBEq, evB, tyA, e1, bos_len, e2, hg]; (repeat (with_reducible refine And.intro ?_ ?_; exact sdX)); (with_reducible first | refine awp_id ?_ | refine id_call ?_ | refine id_and ?_ | refine id_ex ?_ | refine id_all ?_ | refine id_nat ?_ | refine id_le ?_))))
      exact awp_ret (ends_plain (.inr rfl) rfl (by simp (maxSteps := 4000000) only [↓reduceIte, Nat.reduceLT, Nat.reduceEqDiff, reduceCtorEq, Nat.reduceAdd, Nat.reduceMul, Int.reduceLE, Int.reduceLT, Int.reduceToNat, Nat.reduceLeDiff, Nat.reduceSub, Int.reduceEq, Nat.reduceBEq, evB, e1', e2, Bool.true_and, Int.toNat_natCast]))
    · have e2 : decide ((s : Int) < (F.length : Int)) = false := by simpa using h1
      (repeat (first | refine awp_seq ?_ | refine awp_block ?_ | ((first | refine awp_skip ?_ | refine awp_exit ?_ | refine awp_reg ttok ?_ | (refine awp_draw ttok ?dr_calm ?_; (case dr_calm => decide +kernel)) | refine awp_condM ?_); simp (maxSteps := 4000000) only [↓reduceIte, Nat.reduceLT, Nat.reduceEqDiff, reduceCtorEq, Nat.reduceAdd, Nat.reduceMul, Int.reduceLE, Int.reduceLT, Int.reduceToNat, Nat.reduceLeDiff, Nat.reduceSub, Int.reduceEq, Nat.reduceBEq, evB, tyA, e1, bos_len, e2]; (repeat (with_reducible refine And.intro ?_ ?_; exact sdX)); (with_reducible first | refine awp_id ?_ | refine id_call ?_ | refine id_and ?_ | refine id_ex ?_ | refine id_all ?_ | refine id_nat ?_ | refine id_le ?_))))
      exact awp_ret (ends_plain (.inr rfl) rfl (by simp (maxSteps := 4000000) only [↓reduceIte, Nat.reduceLT, Nat.reduceEqDiff, reduceCtorEq, Nat.reduceAdd, Nat.reduceMul, Int.reduceLE, Int.reduceLT, Int.reduceToNat, Nat.reduceLeDiff, Nat.reduceSub, Int.reduceEq, Nat.reduceBEq, evB, e1', e2, Bool.true_and, Bool.false_and]))
theorem c_EFinal (L st : Nat) (F : List Bool) (M : Mv) (f : Bool) (l : List Int) (hl : l.length ≤ 100000) : Contract Try.prog 75 [nfaD L st F M, .sl f (ints l)] (bo (finL F l)) [] := by
  refine contract_of_awp (rs := [4]) Try.func75 rfl Try.ntmps75 (by simp) rfl fun E => ?_
  have hc := c_CtI 89 [i64 L, i64 st, .sl false (bos F), .sl false (mmv M)] fnok89 (finP1 F) f l hl fun x _ => c_EFinal1 L st F M x
  (repeat (first | refine awp_seq ?_ | refine awp_block ?_ | ((first | refine awp_skip ?_ | refine awp_exit ?_ | refine awp_reg ttok ?_ | (refine awp_draw ttok ?dr_calm ?_; (case dr_calm => decide +kernel)) | refine awp_condM ?_); simp (maxSteps := 4000000) only [↓reduceIte, Nat.reduceLT, Nat.reduceEqDiff, reduceCtorEq, Nat.reduceAdd, Nat.reduceMul, Int.reduceLE, Int.reduceLT, Int.reduceToNat, Nat.reduceLeDiff, Nat.reduceSub, Int.reduceEq, Nat.reduceBEq, evB, tyA, nfaD]; (repeat (with_reducible refine And.intro ?_ ?_; exact sdX)); (with_reducible first | refine awp_id ?_ | refine id_call ?_ | refine id_and ?_ | refine id_ex ?_ | refine id_all ?_ | refine id_nat ?_ | refine id_le ?_))))
  refine callVC_scal fnok79 hc rfl ?_
  simp (maxSteps := 4000000) only [↓reduceIte, Nat.reduceLT, Nat.reduceEqDiff, reduceCtorEq, Nat.reduceAdd, Nat.reduceMul, Int.reduceLE, Int.reduceLT, Int.reduceToNat, Nat.reduceLeDiff, Nat.reduceSub, Int.reduceEq, Nat.reduceBEq, evB, tyA]
  (repeat (with_reducible refine And.intro ?_ ?_; exact sdX))
  (repeat (first | refine awp_seq ?_ | refine awp_block ?_ | ((first | refine awp_skip ?_ | refine awp_exit ?_ | refine awp_reg ttok ?_ | (refine awp_draw ttok ?dr_calm ?_; (case dr_calm => decide +kernel)) | refine awp_condM ?_); simp (maxSteps := 4000000) only [↓reduceIte, Nat.reduceLT, Nat.reduceEqDiff, reduceCtorEq, Nat.reduceAdd, Nat.reduceMul, Int.reduceLE, Int.reduceLT, Int.reduceToNat, Nat.reduceLeDiff, Nat.reduceSub, Int.reduceEq, Nat.reduceBEq, evB, tyA]; (repeat (with_reducible refine And.intro ?_ ?_; exact sdX)); (with_reducible first | refine awp_id ?_ | refine id_call ?_ | refine id_and ?_ | refine id_ex ?_ | refine id_all ?_ | refine id_nat ?_ | refine id_le ?_))))
  exact awp_ret (ends_plain (.inr rfl) rfl (by simp (maxSteps := 4000000) only [↓reduceIte, Nat.reduceLT, Nat.reduceEqDiff, reduceCtorEq, Nat.reduceAdd, Nat.reduceMul, Int.reduceLE, Int.reduceLT, Int.reduceToNat, Nat.reduceLeDiff, Nat.reduceSub, Int.reduceEq, Nat.reduceBEq, evB]; rfl))
def layO (g : Nat → Int) (L : Nat) (ks : List Int) : List Int := (List.range L).map fun (a : Nat) => if ks.contains (a : Int) = true then g a else -1
theorem layO_len (g : Nat → Int) (L : Nat) (ks : List Int) : (layO g L ks).length = L := by simp [layO]
theorem layO_nil (g : Nat → Int) (L : Nat) : layO g L [] = negs L := by
  apply List.ext_getElem <;> simp [layO, negs]
theorem layO_set {g : Nat → Int} {L : Nat} {ks : List Int} {a : Nat} (h : a < L) : (layO g L ks).set a (g a) = layO g L (ks ++ [(a : Int)]) := by
  apply List.ext_getElem
  · simp [layO]
  · intro i h1 h2
    simp only [layO, List.getElem_set, List.getElem_map, List.getElem_range]
    by_cases e : a = i
    · subst e
      rw [if_pos rfl, if_pos (by simp)]
    · rw [if_neg e]
      have : (ks ++ [(a : Int)]).contains (i : Int) = ks.contains (i : Int) := by
        rw [Bool.eq_iff_iff]
        simp only [List.contains_iff_mem, List.mem_append, List.mem_singleton]
        constructor
        · rintro (q | q)
          · exact q
          · omega
        · exact .inl
      rw [this]
theorem layO_out (L : Nat) (M : Mv) (Q : List (List Int)) (S : List Int) : layO (fun a => dNum M Q S (a : Int)) L (outL L M S) = (List.range L).map fun (a : Nat) => dNum M Q S (a : Int) := by
  unfold layO
  apply List.map_congr_left
  intro a ha
  have ha := List.mem_range.1 ha
  split
  · rfl
  · rename_i hn
    simp only [List.contains_iff_mem, outL_iff, not_exists, not_and] at hn
    have := hn a rfl ha
    unfold dNum
    rw [if_pos (by simpa using this)]
theorem dNum_pre {M : Mv} {q u : List (List Int)} {S : List Int} {a : Int} (h : dTo M S a ∈ q) : dNum M (q ++ u) S a = dNum M q S a := by
  unfold dNum
  split
  · rfl
  · rw [List.idxOf_append, if_pos h]
set_option maxRecDepth 20000 in
set_option maxHeartbeats 64000000 in
theorem c_DOf {L k : Nat} {M : Mv} (h : MOk L k M) (hR : ∀ s, (M.getD s []).length ≤ 1000) (hL : L ≤ 100000) (hk : 1 ≤ k ∧ k ≤ 10) (st : Nat) (hst : st < k) (F : List Bool) (hF : F.length = k) :
    Contract Try.prog 42 [nfaD L st F M] (.tup [dfaD L 0 (dFin F (dAll L M (cloL M [(st : Int)]))) (dNx L M (dAll L M (cloL M [(st : Int)]))), i64 0]) [] := by
  refine contract_of_awpV ttok (rs := [.cell 2 31, .tmp 3]) Try.func42 rfl Try.ntmps42 (by simp) rfl fun E => ?_
  have hkl := h.len
  have h2k : 2 ^ k ≤ 1024 := by
    have := Nat.pow_le_pow_right (show 0 < 2 by decide) hk.2
    exact this
  have hmay := c_RMay h hR ⟨by omega, by omega⟩ st hst F hF
  have hc0 := c_EClose h ⟨by omega, by omega⟩ st F false [(st : Int)] (by simp) hR
  have e1 : ints [(st : Int)] = [[i64 st]] := rfl
  rw [e1] at hc0
  have hA := DA.mk (L := L) (z := cloL M [(st : Int)]) (Q := dAll L M (cloL M [(st : Int)])) h ⟨_, rfl⟩ rfl
  generalize hQ : dAll L M (cloL M [(st : Int)]) = Q at *
  have hz : ∃ p, cloL M [(st : Int)] = onL M.length p := ⟨_, rfl⟩
  generalize cloL M [(st : Int)] = z at *
  have hdi := fun i => hA.di i
  have hzl : z.length ≤ k ∧ ∀ x ∈ z, 0 ≤ x ∧ x < (k : Int) := by
    have := (hdi 0).entry (S := z) (by simp [dQ])
    rw [hkl] at this
    exact this
  have hK0 := c_DKey false z (by omega) fun x hx => by have := hzl.2 x hx; omega
  have hmT : mapT tt 110 = some (MKind.str, Value.int .i64 0) := by kernel_rfl
  have hlen : ∀ {q : List (List Int)}, DI M q → q.length ≤ 2 ^ k := fun hq => by have := hq.len; rwa [hkl] at this
  have hrow := fun {i : Nat} {ks ls : List Int} (hi : i < Q.length) => hA.row (i := i) hi (ks := ks) (ls := ls)
  have hend := fun {i : Nat} => hA.end_ (i := i)
  have hpre := fun {i : Nat} => hA.pre (i := i)
  have hlQ := hA.lenQ
  generalize 2 ^ k = K2 at *
  (repeat (first | refine awp_seq ?_ | refine awp_block ?_ | ((first | refine awp_skip ?_ | refine awp_exit ?_ | refine awp_reg ttok ?_ | (refine awp_draw ttok ?dr_calm ?_; (case dr_calm => decide +kernel)) | refine awp_condM ?_); simp (maxSteps := 4000000) only [↓reduceIte, Nat.reduceLT, Nat.reduceEqDiff, reduceCtorEq, Nat.reduceAdd, Nat.reduceMul, Int.reduceLE, Int.reduceLT, Int.reduceToNat, Nat.reduceLeDiff, Nat.reduceSub, Int.reduceEq, Nat.reduceBEq, evB, tyA, nfaD]; (repeat (with_reducible refine And.intro ?_ ?_; exact sdX)); (with_reducible first | refine awp_id ?_ | refine id_call ?_ | refine id_and ?_ | refine id_ex ?_ | refine id_all ?_ | refine id_nat ?_ | refine id_le ?_))))
  refine callVC_scal fnok70 hmay rfl ?_
  simp (maxSteps := 4000000) only [↓reduceIte, Nat.reduceLT, Nat.reduceEqDiff, reduceCtorEq, Nat.reduceAdd, Nat.reduceMul, Int.reduceLE, Int.reduceLT, Int.reduceToNat, Nat.reduceLeDiff, Nat.reduceSub, Int.reduceEq, Nat.reduceBEq, evB, tyA]
  (repeat (with_reducible refine And.intro ?_ ?_; exact sdX))
  (repeat (first | refine awp_seq ?_ | refine awp_block ?_ | ((first | refine awp_skip ?_ | refine awp_exit ?_ | refine awp_reg ttok ?_ | (refine awp_draw ttok ?dr_calm ?_; (case dr_calm => decide +kernel)) | refine awp_condM ?_); simp (maxSteps := 4000000) only [↓reduceIte, Nat.reduceLT, Nat.reduceEqDiff, reduceCtorEq, Nat.reduceAdd, Nat.reduceMul, Int.reduceLE, Int.reduceLT, Int.reduceToNat, Nat.reduceLeDiff, Nat.reduceSub, Int.reduceEq, Nat.reduceBEq, evB, tyA]; (repeat (with_reducible refine And.intro ?_ ?_; exact sdX)); (with_reducible first | refine awp_id ?_ | refine id_call ?_ | refine id_and ?_ | refine id_ex ?_ | refine id_all ?_ | refine id_nat ?_ | refine id_le ?_))))
  refine callVC_mk fnok71 hc0 rfl ?_
  simp (maxSteps := 4000000) only [↓reduceIte, Nat.reduceLT, Nat.reduceEqDiff, reduceCtorEq, Nat.reduceAdd, Nat.reduceMul, Int.reduceLE, Int.reduceLT, Int.reduceToNat, Nat.reduceLeDiff, Nat.reduceSub, Int.reduceEq, Nat.reduceBEq, evB, tyA, nfaD]
  (repeat (with_reducible refine And.intro ?_ ?_; exact sdX))
  (repeat (first | refine awp_seq ?_ | refine awp_block ?_ | ((first | refine awp_skip ?_ | refine awp_exit ?_ | refine awp_reg ttok ?_ | (refine awp_draw ttok ?dr_calm ?_; (case dr_calm => decide +kernel)) | refine awp_condM ?_); simp (maxSteps := 4000000) only [↓reduceIte, Nat.reduceLT, Nat.reduceEqDiff, reduceCtorEq, Nat.reduceAdd, Nat.reduceMul, Int.reduceLE, Int.reduceLT, Int.reduceToNat, Nat.reduceLeDiff, Nat.reduceSub, Int.reduceEq, Nat.reduceBEq, evB, tyA, hmT]; (repeat (with_reducible refine And.intro ?_ ?_; exact sdX)); (with_reducible first | refine awp_id ?_ | refine id_call ?_ | refine id_and ?_ | refine id_ex ?_ | refine id_all ?_ | refine id_nat ?_ | refine id_le ?_))))
  intro mb
  (repeat (first | refine awp_seq ?_ | refine awp_block ?_ | ((first | refine awp_skip ?_ | refine awp_exit ?_ | refine awp_reg ttok ?_ | (refine awp_draw ttok ?dr_calm ?_; (case dr_calm => decide +kernel)) | refine awp_condM ?_); simp (maxSteps := 4000000) only [↓reduceIte, Nat.reduceLT, Nat.reduceEqDiff, reduceCtorEq, Nat.reduceAdd, Nat.reduceMul, Int.reduceLE, Int.reduceLT, Int.reduceToNat, Nat.reduceLeDiff, Nat.reduceSub, Int.reduceEq, Nat.reduceBEq, evB, tyA]; (repeat (with_reducible refine And.intro ?_ ?_; exact sdX)); (with_reducible first | refine awp_id ?_ | refine id_call ?_ | refine id_and ?_ | refine id_ex ?_ | refine id_all ?_ | refine id_nat ?_ | refine id_le ?_))))
  refine ⟨by omega, ?_⟩
  refine callVC_scal fnok72 hK0 rfl ?_
  simp (maxSteps := 4000000) only [↓reduceIte, Nat.reduceLT, Nat.reduceEqDiff, reduceCtorEq, Nat.reduceAdd, Nat.reduceMul, Int.reduceLE, Int.reduceLT, Int.reduceToNat, Nat.reduceLeDiff, Nat.reduceSub, Int.reduceEq, Nat.reduceBEq, evB, tyA, strK, hmT]
  (repeat (with_reducible refine And.intro ?_ ?_; exact sdX))
  (repeat (first | refine awp_seq ?_ | refine awp_block ?_ | ((first | refine awp_skip ?_ | refine awp_exit ?_ | refine awp_reg ttok ?_ | (refine awp_draw ttok ?dr_calm ?_; (case dr_calm => decide +kernel)) | refine awp_condM ?_); simp (maxSteps := 4000000) only [↓reduceIte, Nat.reduceLT, Nat.reduceEqDiff, reduceCtorEq, Nat.reduceAdd, Nat.reduceMul, Int.reduceLE, Int.reduceLT, Int.reduceToNat, Nat.reduceLeDiff, Nat.reduceSub, Int.reduceEq, Nat.reduceBEq, evB, tyA, hmT, strK]; (repeat (with_reducible refine And.intro ?_ ?_; exact sdX)); (with_reducible first | refine awp_id ?_ | refine id_call ?_ | refine id_and ?_ | refine id_ex ?_ | refine id_all ?_ | refine id_nat ?_ | refine id_le ?_))))
  refine awp_own_nilC 6003 0 2 80001 1 (by decide) (by simp (maxSteps := 4000000) only [↓reduceIte, Nat.reduceLT, Nat.reduceEqDiff, reduceCtorEq, Nat.reduceAdd, Nat.reduceMul, Int.reduceLE, Int.reduceLT, Int.reduceToNat, Nat.reduceLeDiff, Nat.reduceSub, Int.reduceEq, Nat.reduceBEq, evB]; rfl) rfl rfl rfl ?_
  refine awp_own_nilC 6003 0 3 80002 1 (by decide) (by simp (maxSteps := 4000000) only [↓reduceIte, Nat.reduceLT, Nat.reduceEqDiff, reduceCtorEq, Nat.reduceAdd, Nat.reduceMul, Int.reduceLE, Int.reduceLT, Int.reduceToNat, Nat.reduceLeDiff, Nat.reduceSub, Int.reduceEq, Nat.reduceBEq, evB]; rfl) rfl rfl rfl ?_
  have hlt2 := fun {i : Nat} => hA.lt (i := i)
  have hat := fun {i : Nat} => hA.at_ (i := i)
  have hone : ixM strK [z] 0 = [(strK z, .int .i64 0)] := rfl
  have htr1 : iis [z] = [[.sl false (ints z)]] := rfl
  have hQd := hA.diQ
  have zi2 : List.replicate L (List.map ofAtom (Value.int IntKind.i64 0).cells.toList) = ints (List.replicate L 0) := by simp only [ints, List.map_replicate]; rfl
  have zi : ∀ n : Nat, List.replicate (n : Int).toNat [D.v (Value.int IntKind.i64 0)] = ints (List.replicate n 0) := fun n => by simp [ints]
  refine awp_loop (X := Nat) (fun i => mkSM 118 [(1, .ptr 1000 0 0), (2, .ptr 1001 0 0), (4, .own 4005 0 (dQ L M z i).length), (5, .v (.map (some mb))), (6, .ptr 6003 0 0), (7, i64 i)]
      [(1000, { sz := 4, rows := [[i64 L, i64 st, .sl false (bos F), .sl false (mmv M)]], flat := false }), (1001, { sz := 4, rows := [[i64 0, i64 0, .sl true [], .sl true []]], flat := false }), (4005, { sz := 1, rows := iis (dQ L M z i) }), (6003, { sz := 4, rows := [[i64 L, i64 0, .own 80001 0 i, .own 80002 0 i]], flat := false }), (80001, { sz := 1, rows := bos ((dFin F Q).take i) }), (80002, { sz := 1, rows := iis ((dNx L M Q).take i) })] ⟨mb, .str, ixM strK (dQ L M z i) 0⟩)
    (fun i => i ≤ (dQ L M z i).length) (fun i => 3000 - i) 0 (Nat.zero_le _) ?_ ?_
  · refine mkSM_le rfl ?_ ?_ ?_
    · simp (maxSteps := 4000000) only [↓reduceIte, Nat.reduceLT, Nat.reduceEqDiff, reduceCtorEq, Nat.reduceAdd, Nat.reduceMul, Int.reduceLE, Int.reduceLT, Int.reduceToNat, Nat.reduceLeDiff, Nat.reduceSub, Int.reduceEq, Nat.reduceBEq, evB, dQ]
      try rfl
    · simp (maxSteps := 4000000) only [↓reduceIte, Nat.reduceLT, Nat.reduceEqDiff, reduceCtorEq, Nat.reduceAdd, Nat.reduceMul, Int.reduceLE, Int.reduceLT, Int.reduceToNat, Nat.reduceLeDiff, Nat.reduceSub, Int.reduceEq, Nat.reduceBEq, evB, dQ, htr1]
      exact ⟨rfl, rfl⟩
    · simp (maxSteps := 4000000) only [↓reduceIte, Nat.reduceLT, Nat.reduceEqDiff, reduceCtorEq, Nat.reduceAdd, Nat.reduceMul, Int.reduceLE, Int.reduceLT, Int.reduceToNat, Nat.reduceLeDiff, Nat.reduceSub, Int.reduceEq, Nat.reduceBEq, evB, dQ, hone, strK]
      try rfl
  · intro i hi
    have hik := hlen (hdi i)
    by_cases hlt : i < (dQ L M z i).length
    · have d1 : decide ((i : Int) < ((dQ L M z i).length : Int)) = true := by simpa using hlt
      have hnx : dQ L M z (i + 1) = dFold M ((dQ L M z i).getD i []) (dQ L M z i) (outL L M ((dQ L M z i).getD i [])) := by rw [dQ, if_pos hlt]
      have hiQ : i < Q.length := by
        obtain ⟨u, hu⟩ := hpre (i := i) (by omega)
        rw [hu, List.length_append]; omega
      have hat := hat hiQ
      have hgq := iis_get hlt
      rw [hat] at hnx hgq
      have hrow := fun {ks ls : List Int} => hrow (ks := ks) (ls := ls) hiQ
      have hSe := hQd.entry (getD_mem hiQ [])
      rw [hkl] at hSe
      have hsQ : ∀ {β : Type} (f : List Int → β) (d : β), (Q.map f).getD i d = f (Q.getD i []) := fun f d => getD_mapD f d [] hiQ
      have hdq := hdi i
      generalize hqE : dQ L M z i = q at *
      generalize hSE : Q.getD i [] = S at *
      have hOu := c_EOut h (by omega) st F false S (by omega) hR
      have hFn := c_EFinal L st F M false S (by omega)
      (repeat (first | refine awp_seq ?_ | refine awp_block ?_ | ((first | refine awp_skip ?_ | refine awp_exit ?_ | refine awp_reg ttok ?_ | (refine awp_draw ttok ?dr_calm ?_; (case dr_calm => decide +kernel)) | refine awp_condM ?_); simp (maxSteps := 4000000) only [↓reduceIte, Nat.reduceLT, Nat.reduceEqDiff, reduceCtorEq, Nat.reduceAdd, Nat.reduceMul, Int.reduceLE, Int.reduceLT, Int.reduceToNat, Nat.reduceLeDiff, Nat.reduceSub, Int.reduceEq, Nat.reduceBEq, evB, tyA, d1, iis_len, zi, ints_len]; (repeat (with_reducible refine And.intro ?_ ?_; exact sdX)); (with_reducible first | refine awp_id ?_ | refine id_call ?_ | refine id_and ?_ | refine id_ex ?_ | refine id_all ?_ | refine id_nat ?_ | refine id_le ?_))))
      refine awp_loop (X := Nat) (fun j => mkSM 118 [(1, .ptr 1000 0 0), (2, .ptr 1001 0 0), (4, .own 4005 0 q.length), (5, .v (.map (some mb))), (6, .ptr 6003 0 0), (7, i64 i), (8, .own 10002 0 L), (44, i64 L), (45, i64 j)]
          [(1000, { sz := 4, rows := [[i64 L, i64 st, .sl false (bos F), .sl false (mmv M)]], flat := false }), (1001, { sz := 4, rows := [[i64 0, i64 0, .sl true [], .sl true []]], flat := false }), (4005, { sz := 1, rows := iis q }), (6003, { sz := 4, rows := [[i64 L, i64 0, .own 80001 0 i, .own 80002 0 i]], flat := false }), (80001, { sz := 1, rows := bos ((dFin F Q).take i) }), (80002, { sz := 1, rows := iis ((dNx L M Q).take i) }), (10002, { sz := 1, rows := ints (negP L j) })] ⟨mb, .str, ixM strK q 0⟩)
        (fun j => j ≤ L) (fun j => L - j) 0 (Nat.zero_le _) ?_ ?_
      · refine mkSM_le rfl ?_ ?_ ?_
        · simp (maxSteps := 4000000) only [↓reduceIte, Nat.reduceLT, Nat.reduceEqDiff, reduceCtorEq, Nat.reduceAdd, Nat.reduceMul, Int.reduceLE, Int.reduceLT, Int.reduceToNat, Nat.reduceLeDiff, Nat.reduceSub, Int.reduceEq, Nat.reduceBEq, evB]
          try rfl
        · simp (maxSteps := 4000000) only [↓reduceIte, Nat.reduceLT, Nat.reduceEqDiff, reduceCtorEq, Nat.reduceAdd, Nat.reduceMul, Int.reduceLE, Int.reduceLT, Int.reduceToNat, Nat.reduceLeDiff, Nat.reduceSub, Int.reduceEq, Nat.reduceBEq, evB, negP_zero, zi2]
          try rfl
        · simp (maxSteps := 4000000) only [↓reduceIte, Nat.reduceLT, Nat.reduceEqDiff, reduceCtorEq, Nat.reduceAdd, Nat.reduceMul, Int.reduceLE, Int.reduceLT, Int.reduceToNat, Nat.reduceLeDiff, Nat.reduceSub, Int.reduceEq, Nat.reduceBEq, evB]
          try rfl
      · intro j hj
        have hnl := negP_len hj
        by_cases hjlt : j < L
        · have d2 : decide ((j : Int) < (L : Int)) = true := by simpa using hjlt
          have hwj : IntKind.i64.wrap ((j : Int) + 1) = ((j + 1 : Nat) : Int) := i64_in (by omega) (by omega)
          have hs : List.set (ints (negP L j)) j [D.v (Value.int IntKind.i64 (-1))] = ints (negP L (j + 1)) := by rw [← negP_set hjlt]; simp [ints]
          have hg : (ints (negP L j)).getD j [] = [i64 ((negP L j).getD j 0)] := ints_get (by omega)
          (repeat (first | refine awp_seq ?_ | refine awp_block ?_ | ((first | refine awp_skip ?_ | refine awp_exit ?_ | refine awp_reg ttok ?_ | (refine awp_draw ttok ?dr_calm ?_; (case dr_calm => decide +kernel)) | refine awp_condM ?_); simp (maxSteps := 4000000) only [↓reduceIte, Nat.reduceLT, Nat.reduceEqDiff, reduceCtorEq, Nat.reduceAdd, Nat.reduceMul, Int.reduceLE, Int.reduceLT, Int.reduceToNat, Nat.reduceLeDiff, Nat.reduceSub, Int.reduceEq, Nat.reduceBEq, evB, tyA, d2, ints_len, hnl, hs, hg, hwj]; (repeat (with_reducible refine And.intro ?_ ?_; exact sdX)); (with_reducible first | refine awp_id ?_ | refine id_call ?_ | refine id_and ?_ | refine id_ex ?_ | refine id_all ?_ | refine id_nat ?_ | refine id_le ?_))))
          refine ⟨j + 1, by omega, by omega, ?_⟩
          refine mkSM_le rfl ?_ ?_ ?_
          · exact evX
          · simp (maxSteps := 4000000) only [↓reduceIte, Nat.reduceLT, Nat.reduceEqDiff, reduceCtorEq, Nat.reduceAdd, Nat.reduceMul, Int.reduceLE, Int.reduceLT, Int.reduceToNat, Nat.reduceLeDiff, Nat.reduceSub, Int.reduceEq, Nat.reduceBEq, evB, hs]
          · exact evX
        · have d2 : decide ((j : Int) < (L : Int)) = false := by simpa using hjlt
          obtain rfl : L = j := by omega
          rw [negP_all, ← layO_nil fun a => dNum M Q S (a : Int)]
          (repeat (first | refine awp_seq ?_ | refine awp_block ?_ | ((first | refine awp_skip ?_ | refine awp_exit ?_ | refine awp_reg ttok ?_ | (refine awp_draw ttok ?dr_calm ?_; (case dr_calm => decide +kernel)) | refine awp_condM ?_); simp (maxSteps := 4000000) only [↓reduceIte, Nat.reduceLT, Nat.reduceEqDiff, reduceCtorEq, Nat.reduceAdd, Nat.reduceMul, Int.reduceLE, Int.reduceLT, Int.reduceToNat, Nat.reduceLeDiff, Nat.reduceSub, Int.reduceEq, Nat.reduceBEq, evB, tyA, d2]; (repeat (with_reducible refine And.intro ?_ ?_; exact sdX)); (with_reducible first | refine awp_id ?_ | refine id_call ?_ | refine id_and ?_ | refine id_ex ?_ | refine id_all ?_ | refine id_nat ?_ | refine id_le ?_))))
          refine awp_drawG ttok ((0, none) :: (1, none) :: (2, none) :: (3, none) :: (4, none) :: (7, none) :: (5, some [7]) :: (6, none) :: []) ([]) ([]) (by decide +kernel) fun O hO => ?_; simp only [OpsAre, Nat.reduceAdd, and_true, List.toList_toArray, List.append_eq, List.cons_append, List.nil_append] at hO; simp (maxSteps := 4000000) only [↓reduceIte, Nat.reduceLT, Nat.reduceEqDiff, reduceCtorEq, Nat.reduceAdd, Nat.reduceMul, Int.reduceLE, Int.reduceLT, Int.reduceToNat, Nat.reduceLeDiff, Nat.reduceSub, Int.reduceEq, Nat.reduceBEq, evB, tyA, hO, iis_len, hgq]; (repeat (with_reducible refine And.intro ?_ ?_; exact sdX))
          refine callVC_mk fnok73 hOu rfl ?_
          simp (maxSteps := 4000000) only [↓reduceIte, Nat.reduceLT, Nat.reduceEqDiff, reduceCtorEq, Nat.reduceAdd, Nat.reduceMul, Int.reduceLE, Int.reduceLT, Int.reduceToNat, Nat.reduceLeDiff, Nat.reduceSub, Int.reduceEq, Nat.reduceBEq, evB, tyA, hO, nfaD, iis_len, hgq, ints_len]
          (repeat (with_reducible refine And.intro ?_ ?_; exact sdX))
          (repeat (first | refine awp_seq ?_ | refine awp_block ?_ | ((first | refine awp_skip ?_ | refine awp_exit ?_ | refine awp_reg ttok ?_ | (refine awp_draw ttok ?dr_calm ?_; (case dr_calm => decide +kernel)) | refine awp_condM ?_); simp (maxSteps := 4000000) only [↓reduceIte, Nat.reduceLT, Nat.reduceEqDiff, reduceCtorEq, Nat.reduceAdd, Nat.reduceMul, Int.reduceLE, Int.reduceLT, Int.reduceToNat, Nat.reduceLeDiff, Nat.reduceSub, Int.reduceEq, Nat.reduceBEq, evB, tyA]; (repeat (with_reducible refine And.intro ?_ ?_; exact sdX)); (with_reducible first | refine awp_id ?_ | refine id_call ?_ | refine id_and ?_ | refine id_ex ?_ | refine id_all ?_ | refine id_nat ?_ | refine id_le ?_))))
          have hout := outL_iff (L := L) (M := M) (S := S)
          have hol : (outL L M S).length ≤ L := onL_len _ _
          have hlo := layO_out L M Q S
          have hfl := fun ks => (hdq.fold S ks)
          generalize hkE : outL L M S = ks at *
          refine awp_loop (X := Nat) (fun j => mkSM 118 [(1, .ptr 1000 0 0), (2, .ptr 1001 0 0), (4, .own 4005 0 (dFold M S q (ks.take j)).length), (5, .v (.map (some mb))), (6, .ptr 6003 0 0), (7, i64 i), (8, .own 10002 0 L), (57, .sl false (ints ks)), (58, i64 ks.length), (59, i64 j)]
              [(1000, { sz := 4, rows := [[i64 L, i64 st, .sl false (bos F), .sl false (mmv M)]], flat := false }), (1001, { sz := 4, rows := [[i64 0, i64 0, .sl true [], .sl true []]], flat := false }), (4005, { sz := 1, rows := iis (dFold M S q (ks.take j)) }), (6003, { sz := 4, rows := [[i64 L, i64 0, .own 80001 0 i, .own 80002 0 i]], flat := false }), (80001, { sz := 1, rows := bos ((dFin F Q).take i) }), (80002, { sz := 1, rows := iis ((dNx L M Q).take i) }), (10002, { sz := 1, rows := ints (layO (fun a => dNum M Q S (a : Int)) L (ks.take j)) })] ⟨mb, .str, ixM strK (dFold M S q (ks.take j)) 0⟩)
            (fun j => j ≤ ks.length) (fun j => ks.length - j) 0 (Nat.zero_le _) ?_ ?_
          · refine mkSM_le rfl ?_ ?_ ?_
            · simp (maxSteps := 4000000) only [↓reduceIte, Nat.reduceLT, Nat.reduceEqDiff, reduceCtorEq, Nat.reduceAdd, Nat.reduceMul, Int.reduceLE, Int.reduceLT, Int.reduceToNat, Nat.reduceLeDiff, Nat.reduceSub, Int.reduceEq, Nat.reduceBEq, evB, dFold]
              try rfl
            · simp (maxSteps := 4000000) only [↓reduceIte, Nat.reduceLT, Nat.reduceEqDiff, reduceCtorEq, Nat.reduceAdd, Nat.reduceMul, Int.reduceLE, Int.reduceLT, Int.reduceToNat, Nat.reduceLeDiff, Nat.reduceSub, Int.reduceEq, Nat.reduceBEq, evB, dFold]
              try rfl
            · simp (maxSteps := 4000000) only [↓reduceIte, Nat.reduceLT, Nat.reduceEqDiff, reduceCtorEq, Nat.reduceAdd, Nat.reduceMul, Int.reduceLE, Int.reduceLT, Int.reduceToNat, Nat.reduceLeDiff, Nat.reduceSub, Int.reduceEq, Nat.reduceBEq, evB, dFold]
              try rfl
          · intro j hj
            have hlq := hlen (hfl (ks.take j))
            have hll := layO_len (fun a => dNum M Q S (a : Int)) L (ks.take j)
            by_cases hjlt : j < ks.length
            · have d3 : decide ((j : Int) < (ks.length : Int)) = true := by simpa using hjlt
              have hwj : IntKind.i64.wrap ((j : Int) + 1) = ((j + 1 : Nat) : Int) := i64_in (by omega) (by omega)
              have hgk := ints_get hjlt
              obtain ⟨a, ha, haL, hne⟩ := (hout _).1 (getD_mem hjlt (0 : Int))
              have htk := take_snoc hjlt (0 : Int)
              rw [ha] at hgk htk hne
              have hnq : dFold M S q (ks.take (j + 1)) = addQ (dFold M S q (ks.take j)) (dTo M S (a : Int)) := by rw [htk, dFold_snoc]
              have hnl : layO (fun a => dNum M Q S (a : Int)) L (ks.take (j + 1)) = (layO (fun a => dNum M Q S (a : Int)) L (ks.take j)).set a (dNum M Q S (a : Int)) := by rw [htk, layO_set haL]
              obtain ⟨u, hu⟩ := hrow (ks := ks.take (j + 1)) (ls := ks.drop (j + 1)) (List.take_append_drop _ _).symm
              have hdn : dNum M Q S (a : Int) = dNum M (addQ (dFold M S q (ks.take j)) (dTo M S (a : Int))) S (a : Int) := by
                rw [hu, hnq]
                exact dNum_pre (addQ_has _ _)
              have hdv : dNum M (addQ (dFold M S q (ks.take j)) (dTo M S (a : Int))) S (a : Int) = (((addQ (dFold M S q (ks.take j)) (dTo M S (a : Int))).idxOf (dTo M S (a : Int)) : Nat) : Int) := by
                unfold dNum; rw [if_neg (by rw [hne]; simp)]
              rw [hdn, hdv] at hnl
              have hSt := c_EStep h (by omega) st F false S (by omega) hR (a : Int)
              have hsl : (stepL M S (a : Int)).length ≤ M.length := onL_len _ _
              have hCl := c_EClose h ⟨by omega, by omega⟩ st F false (stepL M S (a : Int)) (by omega) hR
              have hdT : dTo M S (a : Int) = cloL M (stepL M S (a : Int)) := rfl
              have hdI := hfl (ks.take j)
              have hpre2 : ∃ u, dFold M S q (ks.take j) = q ++ u := dFold_pre M S _ q
              have hte : (dTo M S (a : Int)).length ≤ k ∧ ∀ x ∈ dTo M S (a : Int), 0 ≤ x ∧ x < (k : Int) := by
                have := (hdI.add S (a : Int)).entry (addQ_has _ _)
                rw [hkl] at this
                exact this
              rw [← hdT] at hCl
              generalize dTo M S (a : Int) = T at *
              generalize dFold M S q (ks.take j) = p at *
              generalize layO (fun a => dNum M Q S (a : Int)) L (ks.take j) = ro at *
              have hgp : (iis p).getD i [] = [.sl false (ints S)] := by
                obtain ⟨v, rfl⟩ := hpre2
                rw [← iis_app, getD_app_lt (by rw [iis_len]; exact hlt)]
                exact hgq
              have hip : i < p.length := by
                obtain ⟨v, rfl⟩ := hpre2
                rw [List.length_append]; omega
              have hKy := c_DKey false T (by omega) fun x hx => by have := hte.2 x hx; omega
              unfold strK at hKy
              have hmk : ∀ z ∈ p, keyEq (strK T) (strK z) = (z == T) := fun z hz => keyEq_str (fun x hx => by have := hte.2 x hx; omega) (fun x hx => by have := (hdI.entry hz).2 x hx; omega)
              have hget : mget (.string (kStr T)) (ixM strK p 0) = _ := mget_ix strK T p 0 hmk
              have hset : _ → mset (.string (kStr T)) _ (ixM strK p 0) = _ := mset_ix strK T p 0 hmk
              rw [Nat.zero_add] at hget hset
              have hro := ints_get (l := ro) (i := a) (by omega)
              have hse : ∀ (x : Int), (ints ro).set a [D.v (Value.int IntKind.i64 x)] = ints (ro.set a x) := fun x => by simp [ints]
              have hpt : List.take p.length p = p := List.take_of_length_le (Nat.le_refl _)
              have hr2 : ∀ z : List Int, (∀ row ∈ [[D.sl false (ints z)]], row.length = 1) = True := fun z => by simp
              (repeat (first | refine awp_seq ?_ | refine awp_block ?_ | ((first | refine awp_skip ?_ | refine awp_exit ?_ | refine awp_reg ttok ?_ | (refine awp_draw ttok ?dr_calm ?_; (case dr_calm => decide +kernel)) | refine awp_condM ?_); simp (maxSteps := 4000000) only [↓reduceIte, Nat.reduceLT, Nat.reduceEqDiff, reduceCtorEq, Nat.reduceAdd, Nat.reduceMul, Int.reduceLE, Int.reduceLT, Int.reduceToNat, Nat.reduceLeDiff, Nat.reduceSub, Int.reduceEq, Nat.reduceBEq, evB, tyA, d3, hgk]; (repeat (with_reducible refine And.intro ?_ ?_; exact sdX)); (with_reducible first | refine awp_id ?_ | refine id_call ?_ | refine id_and ?_ | refine id_ex ?_ | refine id_all ?_ | refine id_nat ?_ | refine id_le ?_))))
              refine awp_drawG ttok ((0, none) :: (1, none) :: (2, none) :: (3, none) :: (4, none) :: (5, none) :: (6, none) :: (7, some [0]) :: (8, some []) :: (9, none) :: []) ([]) ([]) (by decide +kernel) fun O hO => ?_; simp only [OpsAre, Nat.reduceAdd, and_true, List.toList_toArray, List.append_eq, List.cons_append, List.nil_append] at hO; simp (maxSteps := 4000000) only [↓reduceIte, Nat.reduceLT, Nat.reduceEqDiff, reduceCtorEq, Nat.reduceAdd, Nat.reduceMul, Int.reduceLE, Int.reduceLT, Int.reduceToNat, Nat.reduceLeDiff, Nat.reduceSub, Int.reduceEq, Nat.reduceBEq, evB, tyA, hO, nfaD, iis_len, hgp]; (repeat (with_reducible refine And.intro ?_ ?_; exact sdX))
              refine callVC_mk fnok74 hSt rfl ?_
              simp (maxSteps := 4000000) only [↓reduceIte, Nat.reduceLT, Nat.reduceEqDiff, reduceCtorEq, Nat.reduceAdd, Nat.reduceMul, Int.reduceLE, Int.reduceLT, Int.reduceToNat, Nat.reduceLeDiff, Nat.reduceSub, Int.reduceEq, Nat.reduceBEq, evB, tyA, hO, nfaD, iis_len, hgp]
              (repeat (with_reducible refine And.intro ?_ ?_; exact sdX))
              refine callVC_mk fnok71 hCl rfl ?_
              simp (maxSteps := 4000000) only [↓reduceIte, Nat.reduceLT, Nat.reduceEqDiff, reduceCtorEq, Nat.reduceAdd, Nat.reduceMul, Int.reduceLE, Int.reduceLT, Int.reduceToNat, Nat.reduceLeDiff, Nat.reduceSub, Int.reduceEq, Nat.reduceBEq, evB, tyA, hO, nfaD]
              (repeat (with_reducible refine And.intro ?_ ?_; exact sdX))
              (repeat (first | refine awp_seq ?_ | refine awp_block ?_ | ((first | refine awp_skip ?_ | refine awp_exit ?_ | refine awp_reg ttok ?_ | (refine awp_draw ttok ?dr_calm ?_; (case dr_calm => decide +kernel)) | refine awp_condM ?_); simp (maxSteps := 4000000) only [↓reduceIte, Nat.reduceLT, Nat.reduceEqDiff, reduceCtorEq, Nat.reduceAdd, Nat.reduceMul, Int.reduceLE, Int.reduceLT, Int.reduceToNat, Nat.reduceLeDiff, Nat.reduceSub, Int.reduceEq, Nat.reduceBEq, evB, tyA]; (repeat (with_reducible refine And.intro ?_ ?_; exact sdX)); (with_reducible first | refine awp_id ?_ | refine id_call ?_ | refine id_and ?_ | refine id_ex ?_ | refine id_all ?_ | refine id_nat ?_ | refine id_le ?_))))
              refine callVC_scal fnok72 hKy rfl ?_
              cases hcn : p.contains T
              · rw [hcn, if_neg (by simp)] at hget
                have hset := hset hcn
                have hadd : addQ p T = p ++ [T] := by unfold addQ; rw [hcn, if_neg (by simp)]
                have hix : (p ++ [T]).idxOf T = p.length := by
                  rw [List.idxOf_append, if_neg (by simpa using hcn)]
                  simp
                rw [hadd, hix] at hnl
                rw [hadd] at hnq
                simp (maxSteps := 4000000) only [↓reduceIte, Nat.reduceLT, Nat.reduceEqDiff, reduceCtorEq, Nat.reduceAdd, Nat.reduceMul, Int.reduceLE, Int.reduceLT, Int.reduceToNat, Nat.reduceLeDiff, Nat.reduceSub, Int.reduceEq, Nat.reduceBEq, evB, tyA, hmT, hget]
                (repeat (with_reducible refine And.intro ?_ ?_; exact sdX))
                (repeat (first | refine awp_seq ?_ | refine awp_block ?_ | ((first | refine awp_skip ?_ | refine awp_exit ?_ | refine awp_reg ttok ?_ | (refine awp_draw ttok ?dr_calm ?_; (case dr_calm => decide +kernel)) | refine awp_condM ?_); simp (maxSteps := 4000000) only [↓reduceIte, Nat.reduceLT, Nat.reduceEqDiff, reduceCtorEq, Nat.reduceAdd, Nat.reduceMul, Int.reduceLE, Int.reduceLT, Int.reduceToNat, Nat.reduceLeDiff, Nat.reduceSub, Int.reduceEq, Nat.reduceBEq, evB, tyA, iis_len]; (repeat (with_reducible refine And.intro ?_ ?_; exact sdX)); (with_reducible first | refine awp_id ?_ | refine id_call ?_ | refine id_and ?_ | refine id_ex ?_ | refine id_all ?_ | refine id_nat ?_ | refine id_le ?_))))
                refine callVC_scal fnok72 hKy rfl ?_
                simp (maxSteps := 4000000) only [↓reduceIte, Nat.reduceLT, Nat.reduceEqDiff, reduceCtorEq, Nat.reduceAdd, Nat.reduceMul, Int.reduceLE, Int.reduceLT, Int.reduceToNat, Nat.reduceLeDiff, Nat.reduceSub, Int.reduceEq, Nat.reduceBEq, evB, tyA, hmT, hset, iis_len]
                (repeat (with_reducible refine And.intro ?_ ?_; exact sdX))
                (repeat (first | refine awp_seq ?_ | refine awp_block ?_ | ((first | refine awp_skip ?_ | refine awp_exit ?_ | refine awp_reg ttok ?_ | (refine awp_draw ttok ?dr_calm ?_; (case dr_calm => decide +kernel)) | refine awp_condM ?_); simp (maxSteps := 4000000) only [↓reduceIte, Nat.reduceLT, Nat.reduceEqDiff, reduceCtorEq, Nat.reduceAdd, Nat.reduceMul, Int.reduceLE, Int.reduceLT, Int.reduceToNat, Nat.reduceLeDiff, Nat.reduceSub, Int.reduceEq, Nat.reduceBEq, evB, tyA, iis_len, iis_take, hpt, hr2, ints_len, hll, hro, hwj]; (repeat (with_reducible refine And.intro ?_ ?_; exact sdX)); (with_reducible first | refine awp_id ?_ | refine id_call ?_ | refine id_and ?_ | refine id_ex ?_ | refine id_all ?_ | refine id_nat ?_ | refine id_le ?_))))
                refine ⟨j + 1, by omega, by omega, ?_⟩
                refine mkSM_le rfl ?_ ?_ ?_
                · simp (maxSteps := 4000000) only [↓reduceIte, Nat.reduceLT, Nat.reduceEqDiff, reduceCtorEq, Nat.reduceAdd, Nat.reduceMul, Int.reduceLE, Int.reduceLT, Int.reduceToNat, Nat.reduceLeDiff, Nat.reduceSub, Int.reduceEq, Nat.reduceBEq, evB, hnq, List.length_append]
                  try rfl
                · simp (maxSteps := 4000000) only [↓reduceIte, Nat.reduceLT, Nat.reduceEqDiff, reduceCtorEq, Nat.reduceAdd, Nat.reduceMul, Int.reduceLE, Int.reduceLT, Int.reduceToNat, Nat.reduceLeDiff, Nat.reduceSub, Int.reduceEq, Nat.reduceBEq, evB, hnq, List.length_append, hse, hnl, iis_take, hpt, iis_one, iis_app]
                · simp (maxSteps := 4000000) only [↓reduceIte, Nat.reduceLT, Nat.reduceEqDiff, reduceCtorEq, Nat.reduceAdd, Nat.reduceMul, Int.reduceLE, Int.reduceLT, Int.reduceToNat, Nat.reduceLeDiff, Nat.reduceSub, Int.reduceEq, Nat.reduceBEq, evB, hnq, List.length_append]
              · rw [hcn, if_pos rfl] at hget
                have hadd : addQ p T = p := by unfold addQ; rw [hcn, if_pos rfl]
                rw [hadd] at hnl hnq
                simp (maxSteps := 4000000) only [↓reduceIte, Nat.reduceLT, Nat.reduceEqDiff, reduceCtorEq, Nat.reduceAdd, Nat.reduceMul, Int.reduceLE, Int.reduceLT, Int.reduceToNat, Nat.reduceLeDiff, Nat.reduceSub, Int.reduceEq, Nat.reduceBEq, evB, tyA, hmT, hget]
                (repeat (with_reducible refine And.intro ?_ ?_; exact sdX))
                (repeat (first | refine awp_seq ?_ | refine awp_block ?_ | ((first | refine awp_skip ?_ | refine awp_exit ?_ | refine awp_reg ttok ?_ | (refine awp_draw ttok ?dr_calm ?_; (case dr_calm => decide +kernel)) | refine awp_condM ?_); simp (maxSteps := 4000000) only [↓reduceIte, Nat.reduceLT, Nat.reduceEqDiff, reduceCtorEq, Nat.reduceAdd, Nat.reduceMul, Int.reduceLE, Int.reduceLT, Int.reduceToNat, Nat.reduceLeDiff, Nat.reduceSub, Int.reduceEq, Nat.reduceBEq, evB, tyA, ints_len, hll, hro, hwj]; (repeat (with_reducible refine And.intro ?_ ?_; exact sdX)); (with_reducible first | refine awp_id ?_ | refine id_call ?_ | refine id_and ?_ | refine id_ex ?_ | refine id_all ?_ | refine id_nat ?_ | refine id_le ?_))))
                refine ⟨j + 1, by omega, by omega, ?_⟩
                refine mkSM_le rfl ?_ ?_ ?_
                · simp (maxSteps := 4000000) only [↓reduceIte, Nat.reduceLT, Nat.reduceEqDiff, reduceCtorEq, Nat.reduceAdd, Nat.reduceMul, Int.reduceLE, Int.reduceLT, Int.reduceToNat, Nat.reduceLeDiff, Nat.reduceSub, Int.reduceEq, Nat.reduceBEq, evB, hnq]
                  try rfl
                · simp (maxSteps := 4000000) only [↓reduceIte, Nat.reduceLT, Nat.reduceEqDiff, reduceCtorEq, Nat.reduceAdd, Nat.reduceMul, Int.reduceLE, Int.reduceLT, Int.reduceToNat, Nat.reduceLeDiff, Nat.reduceSub, Int.reduceEq, Nat.reduceBEq, evB, hnq, hse, hnl]
                · simp (maxSteps := 4000000) only [↓reduceIte, Nat.reduceLT, Nat.reduceEqDiff, reduceCtorEq, Nat.reduceAdd, Nat.reduceMul, Int.reduceLE, Int.reduceLT, Int.reduceToNat, Nat.reduceLeDiff, Nat.reduceSub, Int.reduceEq, Nat.reduceBEq, evB, hnq]
            · have d3 : decide ((j : Int) < (ks.length : Int)) = false := by simpa using hjlt
              have hjt : ks.take j = ks := List.take_of_length_le (by omega)
              rw [hjt] at hll hlq ⊢
              rw [hlo] at hll ⊢
              obtain ⟨v, hv⟩ := dFold_pre M S ks q
              have hgp : (iis (dFold M S q ks)).getD i [] = [.sl false (ints S)] := by
                rw [hv, ← iis_app, getD_app_lt (by rw [iis_len]; exact hlt)]
                exact hgq
              have hip : i < (dFold M S q ks).length := by rw [hv, List.length_append]; omega
              rw [← hnx] at hlq hgp hip ⊢
              obtain ⟨p, hpE⟩ : ∃ p, dQ L M z (i + 1) = p := ⟨_, rfl⟩
              rw [hpE] at hlq hgp hip ⊢
              have hQl : (dNx L M Q).length = Q.length := by simp [dNx]
              have hQf : (dFin F Q).length = Q.length := by simp [dFin]
              have hNs : (dNx L M Q).take (i + 1) = (dNx L M Q).take i ++ [(List.range L).map fun (a : Nat) => dNum M Q S (a : Int)] := by
                rw [take_snoc (by omega) []]
                unfold dNx
                rw [hsQ]
              have hFs : (dFin F Q).take (i + 1) = (dFin F Q).take i ++ [finL F S] := by
                rw [take_snoc (by omega) false]
                unfold dFin
                rw [hsQ]
              have hNt : ((dNx L M Q).take i).length = i := by rw [List.length_take]; omega
              have hFt : ((dFin F Q).take i).length = i := by rw [List.length_take]; omega
              have e2k : decide ((p.length : Int) > 2000) = false := by simp; omega
              have hwi : IntKind.i64.wrap ((i : Int) + 1) = ((i + 1 : Nat) : Int) := i64_in (by omega) (by omega)
              generalize ((List.range L).map fun (a : Nat) => dNum M Q S (a : Int)) = row at *
              have hft : List.take L row = row := List.take_of_length_le (by omega)
              have hr2 : ∀ z : List Int, (∀ row ∈ [[D.sl false (ints z)]], row.length = 1) = True := fun z => by simp
              have hr3 : ∀ z : Bool, (∀ row ∈ [[bo z]], row.length = 1) = True := fun z => by simp
              refine awp_pure 8 (d := .own 10002 0 L) evX (by simp (maxSteps := 4000000) only [↓reduceIte, Nat.reduceLT, Nat.reduceEqDiff, reduceCtorEq, Nat.reduceAdd, Nat.reduceMul, Int.reduceLE, Int.reduceLT, Int.reduceToNat, Nat.reduceLeDiff, Nat.reduceSub, Int.reduceEq, Nat.reduceBEq, evB]; rfl) (by simp (maxSteps := 4000000) only [↓reduceIte, Nat.reduceLT, Nat.reduceEqDiff, reduceCtorEq, Nat.reduceAdd, Nat.reduceMul, Int.reduceLE, Int.reduceLT, Int.reduceToNat, Nat.reduceLeDiff, Nat.reduceSub, Int.reduceEq, Nat.reduceBEq, evB, ints_len, hll]) ?_
              (repeat (first | refine awp_seq ?_ | refine awp_block ?_ | ((first | refine awp_skip ?_ | refine awp_exit ?_ | refine awp_reg ttok ?_ | (refine awp_draw ttok ?dr_calm ?_; (case dr_calm => decide +kernel)) | refine awp_condM ?_); simp (maxSteps := 4000000) only [↓reduceIte, Nat.reduceLT, Nat.reduceEqDiff, reduceCtorEq, Nat.reduceAdd, Nat.reduceMul, Int.reduceLE, Int.reduceLT, Int.reduceToNat, Nat.reduceLeDiff, Nat.reduceSub, Int.reduceEq, Nat.reduceBEq, evB, tyA, d3, e2k, iis_len, ints_take, hft, iis_take, iis_row, hNt, hr2]; (repeat (with_reducible refine And.intro ?_ ?_; exact sdX)); (with_reducible first | refine awp_id ?_ | refine id_call ?_ | refine id_and ?_ | refine id_ex ?_ | refine id_all ?_ | refine id_nat ?_ | refine id_le ?_))))
              refine awp_drawG ttok ((0, none) :: (1, none) :: (2, none) :: (3, none) :: (4, none) :: (5, none) :: (6, none) :: (7, some [0, 1]) :: (8, some [0, 1]) :: (9, some []) :: (10, none) :: (11, some []) :: []) ([]) ([]) (by decide +kernel) fun O hO => ?_; simp only [OpsAre, Nat.reduceAdd, and_true, List.toList_toArray, List.append_eq, List.cons_append, List.nil_append] at hO; simp (maxSteps := 4000000) only [↓reduceIte, Nat.reduceLT, Nat.reduceEqDiff, reduceCtorEq, Nat.reduceAdd, Nat.reduceMul, Int.reduceLE, Int.reduceLT, Int.reduceToNat, Nat.reduceLeDiff, Nat.reduceSub, Int.reduceEq, Nat.reduceBEq, evB, tyA, hO, hgp, iis_len, bos_len, bos_take, hFt, hr3]; (repeat (with_reducible refine And.intro ?_ ?_; exact sdX))
              refine callVC_scal fnok75 hFn rfl ?_
              simp (maxSteps := 4000000) only [↓reduceIte, Nat.reduceLT, Nat.reduceEqDiff, reduceCtorEq, Nat.reduceAdd, Nat.reduceMul, Int.reduceLE, Int.reduceLT, Int.reduceToNat, Nat.reduceLeDiff, Nat.reduceSub, Int.reduceEq, Nat.reduceBEq, evB, tyA, hO, nfaD, bos_len, bos_take, hFt, hr3]
              (repeat (with_reducible refine And.intro ?_ ?_; exact sdX))
              (repeat (first | refine awp_seq ?_ | refine awp_block ?_ | ((first | refine awp_skip ?_ | refine awp_exit ?_ | refine awp_reg ttok ?_ | (refine awp_draw ttok ?dr_calm ?_; (case dr_calm => decide +kernel)) | refine awp_condM ?_); simp (maxSteps := 4000000) only [↓reduceIte, Nat.reduceLT, Nat.reduceEqDiff, reduceCtorEq, Nat.reduceAdd, Nat.reduceMul, Int.reduceLE, Int.reduceLT, Int.reduceToNat, Nat.reduceLeDiff, Nat.reduceSub, Int.reduceEq, Nat.reduceBEq, evB, tyA, hwi]; (repeat (with_reducible refine And.intro ?_ ?_; exact sdX)); (with_reducible first | refine awp_id ?_ | refine id_call ?_ | refine id_and ?_ | refine id_ex ?_ | refine id_all ?_ | refine id_nat ?_ | refine id_le ?_))))
              refine ⟨i + 1, by rw [hpE]; omega, by omega, ?_⟩
              refine mkSM_le rfl ?_ ?_ ?_
              · simp (maxSteps := 4000000) only [↓reduceIte, Nat.reduceLT, Nat.reduceEqDiff, reduceCtorEq, Nat.reduceAdd, Nat.reduceMul, Int.reduceLE, Int.reduceLT, Int.reduceToNat, Nat.reduceLeDiff, Nat.reduceSub, Int.reduceEq, Nat.reduceBEq, evB, hpE]
              · simp (maxSteps := 4000000) only [↓reduceIte, Nat.reduceLT, Nat.reduceEqDiff, reduceCtorEq, Nat.reduceAdd, Nat.reduceMul, Int.reduceLE, Int.reduceLT, Int.reduceToNat, Nat.reduceLeDiff, Nat.reduceSub, Int.reduceEq, Nat.reduceBEq, evB, hpE, bos_take, bos_app, bos_one, hFs, iis_take, iis_app, iis_one, hNs, hFt, hNt]
              · simp (maxSteps := 4000000) only [↓reduceIte, Nat.reduceLT, Nat.reduceEqDiff, reduceCtorEq, Nat.reduceAdd, Nat.reduceMul, Int.reduceLE, Int.reduceLT, Int.reduceToNat, Nat.reduceLeDiff, Nat.reduceSub, Int.reduceEq, Nat.reduceBEq, evB, hpE]
    · have d1 : decide ((i : Int) < ((dQ L M z i).length : Int)) = false := by simpa using hlt
      have hQe := hend (i := i) (by omega) hlt
      rw [hQe] at hi hlt d1 hik ⊢
      have hei : i = Q.length := by omega
      have hQl : (dNx L M Q).length = Q.length := by simp [dNx]
      have hQf : (dFin F Q).length = Q.length := by simp [dFin]
      have hNt : (dNx L M Q).take i = dNx L M Q := List.take_of_length_le (by omega)
      have hFt : (dFin F Q).take i = dFin F Q := List.take_of_length_le (by omega)
      rw [hNt, hFt]
      rw [← hei] at hQl hQf
      refine awp_pureO 6003 (by simp (maxSteps := 4000000) only [↓reduceIte, Nat.reduceLT, Nat.reduceEqDiff, reduceCtorEq, Nat.reduceAdd, Nat.reduceMul, Int.reduceLE, Int.reduceLT, Int.reduceToNat, Nat.reduceLeDiff, Nat.reduceSub, Int.reduceEq, Nat.reduceBEq, evB]; rfl) rfl (by simp (maxSteps := 4000000) only [↓reduceIte, Nat.reduceLT, Nat.reduceEqDiff, reduceCtorEq, Nat.reduceAdd, Nat.reduceMul, Int.reduceLE, Int.reduceLT, Int.reduceToNat, Nat.reduceLeDiff, Nat.reduceSub, Int.reduceEq, Nat.reduceBEq, evB, bos_len, bos_take, iis_len, iis_take, hFt, hNt, hQl, hQf]; rfl) (by simp (maxSteps := 4000000) only [↓reduceIte, Nat.reduceLT, Nat.reduceEqDiff, reduceCtorEq, Nat.reduceAdd, Nat.reduceMul, Int.reduceLE, Int.reduceLT, Int.reduceToNat, Nat.reduceLeDiff, Nat.reduceSub, Int.reduceEq, Nat.reduceBEq, evB, bos_len, iis_len, hQl, hQf]) (by decide) ?_
      (repeat (first | refine awp_seq ?_ | refine awp_block ?_ | ((first | refine awp_skip ?_ | refine awp_exit ?_ | refine awp_reg ttok ?_ | (refine awp_draw ttok ?dr_calm ?_; (case dr_calm => decide +kernel)) | refine awp_condM ?_); simp (maxSteps := 4000000) only [↓reduceIte, Nat.reduceLT, Nat.reduceEqDiff, reduceCtorEq, Nat.reduceAdd, Nat.reduceMul, Int.reduceLE, Int.reduceLT, Int.reduceToNat, Nat.reduceLeDiff, Nat.reduceSub, Int.reduceEq, Nat.reduceBEq, evB, tyA, d1, iis_len]; (repeat (with_reducible refine And.intro ?_ ?_; exact sdX)); (with_reducible first | refine awp_id ?_ | refine id_call ?_ | refine id_and ?_ | refine id_ex ?_ | refine id_all ?_ | refine id_nat ?_ | refine id_le ?_))))
      exact awp_ret (endsV [] (.inr rfl) (by simp (maxSteps := 4000000) only [↓reduceIte, Nat.reduceLT, Nat.reduceEqDiff, reduceCtorEq, Nat.reduceAdd, Nat.reduceMul, Int.reduceLE, Int.reduceLT, Int.reduceToNat, Nat.reduceLeDiff, Nat.reduceSub, Int.reduceEq, Nat.reduceBEq, evB, tyA, dfaD]; rfl) trivial evX)
def lowB_ (B k : Nat) : Bool := decide (k < B)
mutual
theorem kill_lowB {B k : Nat} (hk : B ≤ k) : ∀ {d : D}, d.all (lowB_ B) = true → d.kill k = d
  | .v _, _ => rfl
  | .agg cs, h => by simp only [D.kill, D.all] at *; rw [killL_lowB hk h]
  | .tup cs, h => by simp only [D.kill, D.all] at *; rw [killL_lowB hk h]
  | .sl _ _, _ => rfl
  | .ref _ _, _ => rfl
  | .own id _ _, h => by
    simp only [D.all, lowB_, decide_eq_true_eq] at h
    simp only [D.kill]; rw [if_neg (by omega)]
  | .ptr id _ _, h => by
    simp only [D.all, lowB_, decide_eq_true_eq] at h
    simp only [D.kill]; rw [if_neg (by omega)]
  | .fn _ _ cs, h => by simp only [D.kill, D.all] at *; rw [killL_lowB hk h]
  | .junk, _ => rfl
theorem killL_lowB {B k : Nat} (hk : B ≤ k) : ∀ {cs : List D}, D.allL (lowB_ B) cs = true → D.killL k cs = cs
  | [], _ => rfl
  | c :: cs, h => by
    simp only [D.killL, D.allL, Bool.and_eq_true] at *
    rw [kill_lowB hk h.1, killL_lowB hk h.2]
end
theorem killO_lowB {B k : Nat} (hk : B ≤ k) {o : AObj} (h : o.all (lowB_ B) = true) : o.kill k = o := by
  unfold AObj.kill
  split
  · rfl
  · rename_i hf
    simp only [AObj.all, Bool.or_eq_true] at h
    have h := h.resolve_left (by simpa using hf)
    have : o.rows.map (D.killL k) = o.rows := by
      rw [List.all_eq_true] at h
      conv => rhs; rw [← List.map_id o.rows]
      apply List.map_congr_left
      intro row hr
      rw [killL_lowB hk (h row hr)]; rfl
    rw [this]
def LowS (B : Nat) (f : Nat → Option D) : Prop := ∀ t d, f t = some d → d.all (lowB_ B) = true
def LowH (B : Nat) (h : Nat → Option AObj) : Prop := ∀ id o, h id = some o → id < B ∧ o.all (lowB_ B) = true
theorem LowS.upd {B : Nat} {f : Nat → Option D} (h : LowS B f) {t : Nat} {d : D} (hd : d.all (lowB_ B) = true) : LowS B (upd f t d) := fun u e he => by
  simp only [Go.Ab.upd] at he
  split at he
  · cases he; exact hd
  · exact h u e he
theorem LowS.lk {B : Nat} {l : List (Nat × D)} (h : (l.all fun x => x.2.all (lowB_ B)) = true) : LowS B (lk l) := fun t d hd => by
  rw [List.all_eq_true] at h
  exact h _ (lk_mem hd)
theorem LowH.lk {B : Nat} {l : List (Nat × AObj)} (h : (l.all fun x => decide (x.1 < B) && x.2.all (lowB_ B)) = true) : LowH B (lk l) := fun t d hd => by
  rw [List.all_eq_true] at h
  have := h _ (lk_mem hd)
  simpa using this
theorem LowS.kill {B k : Nat} {f : Nat → Option D} (h : LowS B f) (hk : B ≤ k) : killS k f = f := by
  funext t
  simp only [killS]
  cases e : f t with
  | none => rfl
  | some d => rw [Option.map_some, kill_lowB hk (h t d e)]
theorem LowH.kill {B k : Nat} {f : Nat → Option AObj} (h : LowH B f) (hk : B ≤ k) : killH k f = f := by
  funext t
  simp only [killH]
  split
  · rename_i e
    cases h' : f t with
    | none => rfl
    | some o => have := (h t o h').1; omega
  · cases e : f t with
    | none => rfl
    | some d => rw [Option.map_some, killO_lowB hk (h t d e).2]
def idxA : List (Int × Int) → Int → Nat → Int
  | [], _, _ => -1
  | x :: l, w, k => if x.2 = w then (k : Int) else idxA l w (k + 1)
end Go.Proofs.Ytcpipfodedfpkaa
