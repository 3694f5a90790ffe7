/-
  The contract of det.Of.
-/
import Derived.Test.YtbhjmioegdgpnaaDt
import Derived.Test.YtbhjmioegdgpnaaRm
import Derived.Test.YtbhjmioegdgpnaaEt
namespace Go.Proofs.Ytbhjmioegdgpnaa
open Go.Ab
set_option linter.unusedSimpArgs false
set_option linter.unusedVariables false

/-- Cells of -1 of which some are laid. -/
def layO (g : Nat → Int) (L : Nat) (ks : List Int) : List Int := (List.range L).map fun (a : Nat) => if ks.contains (a : Int) = true then g a else -1
theorem layO_len (g : Nat → Int) (L : Nat) (ks : List Int) : (layO g L ks).length = L := by simp [layO]
theorem layO_nil (g : Nat → Int) (L : Nat) : layO g L [] = negs L := by
  apply List.ext_getElem <;> simp [layO, negs]
theorem layO_set {g : Nat → Int} {L : Nat} {ks : List Int} {a : Nat} (h : a < L) : (layO g L ks).set a (g a) = layO g L (ks ++ [(a : Int)]) := by
  apply List.ext_getElem
  · simp [layO]
  · intro i h1 h2
    simp only [layO, List.getElem_set, List.getElem_map, List.getElem_range]
    by_cases e : a = i
    · subst e
      rw [if_pos rfl, if_pos (by simp)]
    · rw [if_neg e]
      have : (ks ++ [(a : Int)]).contains (i : Int) = ks.contains (i : Int) := by
        rw [Bool.eq_iff_iff]
        simp only [List.contains_iff_mem, List.mem_append, List.mem_singleton]
        constructor
        · rintro (q | q)
          · exact q
          · omega
        · exact .inl
      rw [this]

theorem layO_out (L : Nat) (M : Mv) (Q : List (List Int)) (S : List Int) : layO (fun a => dNum M Q S (a : Int)) L (outL L M S) = (List.range L).map fun (a : Nat) => dNum M Q S (a : Int) := by
  unfold layO
  apply List.map_congr_left
  intro a ha
  have ha := List.mem_range.1 ha
  split
  · rfl
  · rename_i hn
    simp only [List.contains_iff_mem, outL_iff, not_exists, not_and] at hn
    have := hn a rfl ha
    unfold dNum
    rw [if_pos (by simpa using this)]
theorem dNum_pre {M : Mv} {q u : List (List Int)} {S : List Int} {a : Int} (h : dTo M S a ∈ q) : dNum M (q ++ u) S a = dNum M q S a := by
  unfold dNum
  split
  · rfl
  · rw [List.idxOf_append, if_pos h]

set_option maxRecDepth 20000 in
set_option maxHeartbeats 64000000 in
theorem c_DOf {L k : Nat} {M : Mv} (h : MOk L k M) (hR : ∀ s, (M.getD s []).length ≤ 1000) (hL : L ≤ 100000) (hk : 1 ≤ k ∧ k ≤ 10) (st : Nat) (hst : st < k) (F : List Bool) (hF : F.length = k) :
    Contract Try.prog 19 [nfaD L st F M] (.tup [dfaD L 0 (dFin F (dAll L M (cloL M [(st : Int)]))) (dNx L M (dAll L M (cloL M [(st : Int)]))), i64 0]) [] := by
  refine contract_of_awpV ttok (rs := [.cell 2 41, .tmp 3]) Try.func19 rfl Try.ntmps19 (by simp) rfl fun E => ?_
  have hkl := h.len
  have h2k : 2 ^ k ≤ 1024 := by
    have := Nat.pow_le_pow_right (show 0 < 2 by decide) hk.2
    exact this
  have hmay := c_RMay h hR ⟨by omega, by omega⟩ st hst F hF
  have hc0 := c_EClose h ⟨by omega, by omega⟩ st F false [(st : Int)] (by simp) hR
  have e1 : ints [(st : Int)] = [[i64 st]] := rfl
  rw [e1] at hc0
  have hA := DA.mk (L := L) (z := cloL M [(st : Int)]) (Q := dAll L M (cloL M [(st : Int)])) h ⟨_, rfl⟩ rfl
  generalize hQ : dAll L M (cloL M [(st : Int)]) = Q at *
  have hz : ∃ p, cloL M [(st : Int)] = onL M.length p := ⟨_, rfl⟩
  generalize cloL M [(st : Int)] = z at *
  have hdi := fun i => hA.di i
  have hzl : z.length ≤ k ∧ ∀ x ∈ z, 0 ≤ x ∧ x < (k : Int) := by
    have := (hdi 0).entry (S := z) (by simp [dQ])
    rw [hkl] at this
    exact this
  have hK0 := c_DKey false z (by omega) fun x hx => by have := hzl.2 x hx; omega
  have hmT : mapT tt 61 = some (MKind.str, Value.int .i64 0) := by kernel_rfl
  have hlen : ∀ {q : List (List Int)}, DI M q → q.length ≤ 2 ^ k := fun hq => by have := hq.len; rwa [hkl] at this
  have hrow := fun {i : Nat} {ks ls : List Int} (hi : i < Q.length) => hA.row (i := i) hi (ks := ks) (ls := ls)
  have hend := fun {i : Nat} => hA.end_ (i := i)
  have hpre := fun {i : Nat} => hA.pre (i := i)
  have hlQ := hA.lenQ
  generalize 2 ^ k = K2 at *
  (repeat (first | refine awp_seq ?_ | refine awp_block ?_ | ((first | refine awp_skip ?_ | refine awp_exit ?_ | refine awp_reg ttok ?_ | (refine awp_draw ttok ?dr_calm ?_; (case dr_calm => decide +kernel)) | refine awp_condM ?_); simp (maxSteps := 4000000) only [↓reduceIte, Nat.reduceLT, Nat.reduceEqDiff, reduceCtorEq, Nat.reduceAdd, Nat.reduceMul, Int.reduceLE, Int.reduceLT, Int.reduceToNat, Nat.reduceLeDiff, Nat.reduceSub, Int.reduceEq, Nat.reduceBEq, List.replicate, List.set, if_false, if_true, ne_eq, false_implies, implies_true, evA, tyA, nfaD]; (repeat (with_reducible refine And.intro ?_ ?_; focus ((repeat' with_reducible apply And.intro) <;> (first | omega | with_reducible trivial | with_reducible assumption)))); (with_reducible first | refine awp_id ?_ | refine id_call ?_ | refine id_and ?_ | refine id_ex ?_ | refine id_all ?_ | refine id_nat ?_ | refine id_le ?_))))
  refine callVC_scal fnok33 hmay rfl ?_
  simp (maxSteps := 4000000) only [↓reduceIte, Nat.reduceLT, Nat.reduceEqDiff, reduceCtorEq, Nat.reduceAdd, Nat.reduceMul, Int.reduceLE, Int.reduceLT, Int.reduceToNat, Nat.reduceLeDiff, Nat.reduceSub, Int.reduceEq, Nat.reduceBEq, List.replicate, List.set, if_false, if_true, ne_eq, false_implies, implies_true, evA, tyA]
  (repeat (with_reducible refine And.intro ?_ ?_; focus ((repeat' with_reducible apply And.intro) <;> (first | omega | with_reducible trivial | with_reducible assumption))))
  (repeat (first | refine awp_seq ?_ | refine awp_block ?_ | ((first | refine awp_skip ?_ | refine awp_exit ?_ | refine awp_reg ttok ?_ | (refine awp_draw ttok ?dr_calm ?_; (case dr_calm => decide +kernel)) | refine awp_condM ?_); simp (maxSteps := 4000000) only [↓reduceIte, Nat.reduceLT, Nat.reduceEqDiff, reduceCtorEq, Nat.reduceAdd, Nat.reduceMul, Int.reduceLE, Int.reduceLT, Int.reduceToNat, Nat.reduceLeDiff, Nat.reduceSub, Int.reduceEq, Nat.reduceBEq, List.replicate, List.set, if_false, if_true, ne_eq, false_implies, implies_true, evA, tyA]; (repeat (with_reducible refine And.intro ?_ ?_; focus ((repeat' with_reducible apply And.intro) <;> (first | omega | with_reducible trivial | with_reducible assumption)))); (with_reducible first | refine awp_id ?_ | refine id_call ?_ | refine id_and ?_ | refine id_ex ?_ | refine id_all ?_ | refine id_nat ?_ | refine id_le ?_))))
  refine callVC_mk fnok15 hc0 rfl ?_
  simp (maxSteps := 4000000) only [↓reduceIte, Nat.reduceLT, Nat.reduceEqDiff, reduceCtorEq, Nat.reduceAdd, Nat.reduceMul, Int.reduceLE, Int.reduceLT, Int.reduceToNat, Nat.reduceLeDiff, Nat.reduceSub, Int.reduceEq, Nat.reduceBEq, List.replicate, List.set, if_false, if_true, ne_eq, false_implies, implies_true, evA, tyA, nfaD]
  (repeat (with_reducible refine And.intro ?_ ?_; focus ((repeat' with_reducible apply And.intro) <;> (first | omega | with_reducible trivial | with_reducible assumption))))
  (repeat (first | refine awp_seq ?_ | refine awp_block ?_ | ((first | refine awp_skip ?_ | refine awp_exit ?_ | refine awp_reg ttok ?_ | (refine awp_draw ttok ?dr_calm ?_; (case dr_calm => decide +kernel)) | refine awp_condM ?_); simp (maxSteps := 4000000) only [↓reduceIte, Nat.reduceLT, Nat.reduceEqDiff, reduceCtorEq, Nat.reduceAdd, Nat.reduceMul, Int.reduceLE, Int.reduceLT, Int.reduceToNat, Nat.reduceLeDiff, Nat.reduceSub, Int.reduceEq, Nat.reduceBEq, List.replicate, List.set, if_false, if_true, ne_eq, false_implies, implies_true, evA, tyA, hmT]; (repeat (with_reducible refine And.intro ?_ ?_; focus ((repeat' with_reducible apply And.intro) <;> (first | omega | with_reducible trivial | with_reducible assumption)))); (with_reducible first | refine awp_id ?_ | refine id_call ?_ | refine id_and ?_ | refine id_ex ?_ | refine id_all ?_ | refine id_nat ?_ | refine id_le ?_))))
  intro mb
  (repeat (first | refine awp_seq ?_ | refine awp_block ?_ | ((first | refine awp_skip ?_ | refine awp_exit ?_ | refine awp_reg ttok ?_ | (refine awp_draw ttok ?dr_calm ?_; (case dr_calm => decide +kernel)) | refine awp_condM ?_); simp (maxSteps := 4000000) only [↓reduceIte, Nat.reduceLT, Nat.reduceEqDiff, reduceCtorEq, Nat.reduceAdd, Nat.reduceMul, Int.reduceLE, Int.reduceLT, Int.reduceToNat, Nat.reduceLeDiff, Nat.reduceSub, Int.reduceEq, Nat.reduceBEq, List.replicate, List.set, if_false, if_true, ne_eq, false_implies, implies_true, evA, tyA]; (repeat (with_reducible refine And.intro ?_ ?_; focus ((repeat' with_reducible apply And.intro) <;> (first | omega | with_reducible trivial | with_reducible assumption)))); (with_reducible first | refine awp_id ?_ | refine id_call ?_ | refine id_and ?_ | refine id_ex ?_ | refine id_all ?_ | refine id_nat ?_ | refine id_le ?_))))
  refine ⟨by omega, ?_⟩
  refine callVC_scal fnok34 hK0 rfl ?_
  simp (maxSteps := 4000000) only [↓reduceIte, Nat.reduceLT, Nat.reduceEqDiff, reduceCtorEq, Nat.reduceAdd, Nat.reduceMul, Int.reduceLE, Int.reduceLT, Int.reduceToNat, Nat.reduceLeDiff, Nat.reduceSub, Int.reduceEq, Nat.reduceBEq, List.replicate, List.set, if_false, if_true, ne_eq, false_implies, implies_true, evA, tyA, strK, hmT]
  (repeat (with_reducible refine And.intro ?_ ?_; focus ((repeat' with_reducible apply And.intro) <;> (first | omega | with_reducible trivial | with_reducible assumption))))
  (repeat (first | refine awp_seq ?_ | refine awp_block ?_ | ((first | refine awp_skip ?_ | refine awp_exit ?_ | refine awp_reg ttok ?_ | (refine awp_draw ttok ?dr_calm ?_; (case dr_calm => decide +kernel)) | refine awp_condM ?_); simp (maxSteps := 4000000) only [↓reduceIte, Nat.reduceLT, Nat.reduceEqDiff, reduceCtorEq, Nat.reduceAdd, Nat.reduceMul, Int.reduceLE, Int.reduceLT, Int.reduceToNat, Nat.reduceLeDiff, Nat.reduceSub, Int.reduceEq, Nat.reduceBEq, List.replicate, List.set, if_false, if_true, ne_eq, false_implies, implies_true, evA, tyA, hmT, strK]; (repeat (with_reducible refine And.intro ?_ ?_; focus ((repeat' with_reducible apply And.intro) <;> (first | omega | with_reducible trivial | with_reducible assumption)))); (with_reducible first | refine awp_id ?_ | refine id_call ?_ | refine id_and ?_ | refine id_ex ?_ | refine id_all ?_ | refine id_nat ?_ | refine id_le ?_))))
  refine awp_own_nilC 6003 0 2 80001 1 (by decide) (by simp (maxSteps := 4000000) only [↓reduceIte, Nat.reduceLT, Nat.reduceEqDiff, reduceCtorEq, Nat.reduceAdd, Nat.reduceMul, Int.reduceLE, Int.reduceLT, Int.reduceToNat, Nat.reduceLeDiff, Nat.reduceSub, Int.reduceEq, Nat.reduceBEq, List.replicate, List.set, if_false, if_true, ne_eq, false_implies, implies_true, evA]; rfl) rfl rfl rfl ?_
  refine awp_own_nilC 6003 0 3 80002 1 (by decide) (by simp (maxSteps := 4000000) only [↓reduceIte, Nat.reduceLT, Nat.reduceEqDiff, reduceCtorEq, Nat.reduceAdd, Nat.reduceMul, Int.reduceLE, Int.reduceLT, Int.reduceToNat, Nat.reduceLeDiff, Nat.reduceSub, Int.reduceEq, Nat.reduceBEq, List.replicate, List.set, if_false, if_true, ne_eq, false_implies, implies_true, evA]; rfl) rfl rfl rfl ?_
  have hlt2 := fun {i : Nat} => hA.lt (i := i)
  have hat := fun {i : Nat} => hA.at_ (i := i)
  have hone : ixM strK [z] 0 = [(strK z, .int .i64 0)] := rfl
  have htr1 : iis [z] = [[.sl false (ints z)]] := rfl
  have hQd := hA.diQ
  have zi2 : List.replicate L (List.map ofAtom (Value.int IntKind.i64 0).cells.toList) = ints (List.replicate L 0) := by simp only [ints, List.map_replicate]; rfl
  have zi : ∀ n : Nat, List.replicate (n : Int).toNat [D.v (Value.int IntKind.i64 0)] = ints (List.replicate n 0) := fun n => by simp [ints]
  refine awp_loop (X := Nat) (fun i => mkSM 118 [(1, .ptr 1000 0 0), (2, .ptr 1001 0 0), (4, .own 4005 0 (dQ L M z i).length), (5, .v (.map (some mb))), (6, .ptr 6003 0 0), (7, i64 i)]
      [(1000, { sz := 4, rows := [[i64 L, i64 st, .sl false (bos F), .sl false (mmv M)]], flat := false }), (1001, { sz := 4, rows := [[i64 0, i64 0, .sl true [], .sl true []]], flat := false }), (4005, { sz := 1, rows := iis (dQ L M z i) }), (6003, { sz := 4, rows := [[i64 L, i64 0, .own 80001 0 i, .own 80002 0 i]], flat := false }), (80001, { sz := 1, rows := bos ((dFin F Q).take i) }), (80002, { sz := 1, rows := iis ((dNx L M Q).take i) })] ⟨mb, .str, ixM strK (dQ L M z i) 0⟩)
    (fun i => i ≤ (dQ L M z i).length) (fun i => 3000 - i) 0 (Nat.zero_le _) ?_ ?_
  · refine mkSM_le rfl ?_ ?_ ?_
    · simp (maxSteps := 4000000) only [↓reduceIte, Nat.reduceLT, Nat.reduceEqDiff, reduceCtorEq, Nat.reduceAdd, Nat.reduceMul, Int.reduceLE, Int.reduceLT, Int.reduceToNat, Nat.reduceLeDiff, Nat.reduceSub, Int.reduceEq, Nat.reduceBEq, List.replicate, List.set, if_false, if_true, ne_eq, false_implies, implies_true, evA, dQ]
      try rfl
    · simp (maxSteps := 4000000) only [↓reduceIte, Nat.reduceLT, Nat.reduceEqDiff, reduceCtorEq, Nat.reduceAdd, Nat.reduceMul, Int.reduceLE, Int.reduceLT, Int.reduceToNat, Nat.reduceLeDiff, Nat.reduceSub, Int.reduceEq, Nat.reduceBEq, List.replicate, List.set, if_false, if_true, ne_eq, false_implies, implies_true, evA, dQ, htr1]
      exact ⟨rfl, rfl⟩
    · simp (maxSteps := 4000000) only [↓reduceIte, Nat.reduceLT, Nat.reduceEqDiff, reduceCtorEq, Nat.reduceAdd, Nat.reduceMul, Int.reduceLE, Int.reduceLT, Int.reduceToNat, Nat.reduceLeDiff, Nat.reduceSub, Int.reduceEq, Nat.reduceBEq, List.replicate, List.set, if_false, if_true, ne_eq, false_implies, implies_true, evA, dQ, hone, strK]
      try rfl
  · intro i hi
    have hik := hlen (hdi i)
    by_cases hlt : i < (dQ L M z i).length
    · have d1 : decide ((i : Int) < ((dQ L M z i).length : Int)) = true := by simpa using hlt
      have hnx : dQ L M z (i + 1) = dFold M ((dQ L M z i).getD i []) (dQ L M z i) (outL L M ((dQ L M z i).getD i [])) := by rw [dQ, if_pos hlt]
      have hiQ : i < Q.length := by
        obtain ⟨u, hu⟩ := hpre (i := i) (by omega)
        rw [hu, List.length_append]; omega
      have hat := hat hiQ
      have hgq := iis_get hlt
      rw [hat] at hnx hgq
      have hrow := fun {ks ls : List Int} => hrow (ks := ks) (ls := ls) hiQ
      have hSe := hQd.entry (getD_mem hiQ [])
      rw [hkl] at hSe
      have hsQ : ∀ {β : Type} (f : List Int → β) (d : β), (Q.map f).getD i d = f (Q.getD i []) := fun f d => getD_mapD f d [] hiQ
      have hdq := hdi i
      generalize hqE : dQ L M z i = q at *
      generalize hSE : Q.getD i [] = S at *
      have hOu := c_EOut h (by omega) st F false S (by omega) hR
      have hFn := c_EFinal L st F M false S (by omega)
      (repeat (first | refine awp_seq ?_ | refine awp_block ?_ | ((first | refine awp_skip ?_ | refine awp_exit ?_ | refine awp_reg ttok ?_ | (refine awp_draw ttok ?dr_calm ?_; (case dr_calm => decide +kernel)) | refine awp_condM ?_); simp (maxSteps := 4000000) only [↓reduceIte, Nat.reduceLT, Nat.reduceEqDiff, reduceCtorEq, Nat.reduceAdd, Nat.reduceMul, Int.reduceLE, Int.reduceLT, Int.reduceToNat, Nat.reduceLeDiff, Nat.reduceSub, Int.reduceEq, Nat.reduceBEq, List.replicate, List.set, if_false, if_true, ne_eq, false_implies, implies_true, evA, tyA, d1, iis_len, zi, ints_len]; (repeat (with_reducible refine And.intro ?_ ?_; focus ((repeat' with_reducible apply And.intro) <;> (first | omega | with_reducible trivial | with_reducible assumption)))); (with_reducible first | refine awp_id ?_ | refine id_call ?_ | refine id_and ?_ | refine id_ex ?_ | refine id_all ?_ | refine id_nat ?_ | refine id_le ?_))))
      refine awp_loop (X := Nat) (fun j => mkSM 118 [(1, .ptr 1000 0 0), (2, .ptr 1001 0 0), (4, .own 4005 0 q.length), (5, .v (.map (some mb))), (6, .ptr 6003 0 0), (7, i64 i), (8, .own 10002 0 L), (44, i64 L), (45, i64 j)]
          [(1000, { sz := 4, rows := [[i64 L, i64 st, .sl false (bos F), .sl false (mmv M)]], flat := false }), (1001, { sz := 4, rows := [[i64 0, i64 0, .sl true [], .sl true []]], flat := false }), (4005, { sz := 1, rows := iis q }), (6003, { sz := 4, rows := [[i64 L, i64 0, .own 80001 0 i, .own 80002 0 i]], flat := false }), (80001, { sz := 1, rows := bos ((dFin F Q).take i) }), (80002, { sz := 1, rows := iis ((dNx L M Q).take i) }), (10002, { sz := 1, rows := ints (negP L j) })] ⟨mb, .str, ixM strK q 0⟩)
        (fun j => j ≤ L) (fun j => L - j) 0 (Nat.zero_le _) ?_ ?_
      · refine mkSM_le rfl ?_ ?_ ?_
        · simp (maxSteps := 4000000) only [↓reduceIte, Nat.reduceLT, Nat.reduceEqDiff, reduceCtorEq, Nat.reduceAdd, Nat.reduceMul, Int.reduceLE, Int.reduceLT, Int.reduceToNat, Nat.reduceLeDiff, Nat.reduceSub, Int.reduceEq, Nat.reduceBEq, List.replicate, List.set, if_false, if_true, ne_eq, false_implies, implies_true, evA]
          try rfl
        · simp (maxSteps := 4000000) only [↓reduceIte, Nat.reduceLT, Nat.reduceEqDiff, reduceCtorEq, Nat.reduceAdd, Nat.reduceMul, Int.reduceLE, Int.reduceLT, Int.reduceToNat, Nat.reduceLeDiff, Nat.reduceSub, Int.reduceEq, Nat.reduceBEq, List.replicate, List.set, if_false, if_true, ne_eq, false_implies, implies_true, evA, negP_zero, zi2]
          try rfl
        · simp (maxSteps := 4000000) only [↓reduceIte, Nat.reduceLT, Nat.reduceEqDiff, reduceCtorEq, Nat.reduceAdd, Nat.reduceMul, Int.reduceLE, Int.reduceLT, Int.reduceToNat, Nat.reduceLeDiff, Nat.reduceSub, Int.reduceEq, Nat.reduceBEq, List.replicate, List.set, if_false, if_true, ne_eq, false_implies, implies_true, evA]
          try rfl
      · intro j hj
        have hnl := negP_len hj
        by_cases hjlt : j < L
        · have d2 : decide ((j : Int) < (L : Int)) = true := by simpa using hjlt
          have hwj : IntKind.i64.wrap ((j : Int) + 1) = ((j + 1 : Nat) : Int) := i64_in (by omega) (by omega)
          have hs : List.set (ints (negP L j)) j [D.v (Value.int IntKind.i64 (-1))] = ints (negP L (j + 1)) := by rw [← negP_set hjlt]; simp [ints]
          have hg : (ints (negP L j)).getD j [] = [i64 ((negP L j).getD j 0)] := ints_get (by omega)
          (repeat (first | refine awp_seq ?_ | refine awp_block ?_ | ((first | refine awp_skip ?_ | refine awp_exit ?_ | refine awp_reg ttok ?_ | (refine awp_draw ttok ?dr_calm ?_; (case dr_calm => decide +kernel)) | refine awp_condM ?_); simp (maxSteps := 4000000) only [↓reduceIte, Nat.reduceLT, Nat.reduceEqDiff, reduceCtorEq, Nat.reduceAdd, Nat.reduceMul, Int.reduceLE, Int.reduceLT, Int.reduceToNat, Nat.reduceLeDiff, Nat.reduceSub, Int.reduceEq, Nat.reduceBEq, List.replicate, List.set, if_false, if_true, ne_eq, false_implies, implies_true, evA, tyA, d2, ints_len, hnl, hs, hg, hwj]; (repeat (with_reducible refine And.intro ?_ ?_; focus ((repeat' with_reducible apply And.intro) <;> (first | omega | with_reducible trivial | with_reducible assumption)))); (with_reducible first | refine awp_id ?_ | refine id_call ?_ | refine id_and ?_ | refine id_ex ?_ | refine id_all ?_ | refine id_nat ?_ | refine id_le ?_))))
          refine ⟨j + 1, by omega, by omega, ?_⟩
          refine mkSM_le rfl ?_ ?_ ?_
          · simp (maxSteps := 4000000) only [↓reduceIte, Nat.reduceLT, Nat.reduceEqDiff, reduceCtorEq, Nat.reduceAdd, Nat.reduceMul, Int.reduceLE, Int.reduceLT, Int.reduceToNat, Nat.reduceLeDiff, Nat.reduceSub, Int.reduceEq, Nat.reduceBEq, List.replicate, List.set, if_false, if_true, ne_eq, false_implies, implies_true, evA]
          · simp (maxSteps := 4000000) only [↓reduceIte, Nat.reduceLT, Nat.reduceEqDiff, reduceCtorEq, Nat.reduceAdd, Nat.reduceMul, Int.reduceLE, Int.reduceLT, Int.reduceToNat, Nat.reduceLeDiff, Nat.reduceSub, Int.reduceEq, Nat.reduceBEq, List.replicate, List.set, if_false, if_true, ne_eq, false_implies, implies_true, evA, hs]
          · simp (maxSteps := 4000000) only [↓reduceIte, Nat.reduceLT, Nat.reduceEqDiff, reduceCtorEq, Nat.reduceAdd, Nat.reduceMul, Int.reduceLE, Int.reduceLT, Int.reduceToNat, Nat.reduceLeDiff, Nat.reduceSub, Int.reduceEq, Nat.reduceBEq, List.replicate, List.set, if_false, if_true, ne_eq, false_implies, implies_true, evA]
        · have d2 : decide ((j : Int) < (L : Int)) = false := by simpa using hjlt
          obtain rfl : L = j := by omega
          rw [negP_all, ← layO_nil fun a => dNum M Q S (a : Int)]
          (repeat (first | refine awp_seq ?_ | refine awp_block ?_ | ((first | refine awp_skip ?_ | refine awp_exit ?_ | refine awp_reg ttok ?_ | (refine awp_draw ttok ?dr_calm ?_; (case dr_calm => decide +kernel)) | refine awp_condM ?_); simp (maxSteps := 4000000) only [↓reduceIte, Nat.reduceLT, Nat.reduceEqDiff, reduceCtorEq, Nat.reduceAdd, Nat.reduceMul, Int.reduceLE, Int.reduceLT, Int.reduceToNat, Nat.reduceLeDiff, Nat.reduceSub, Int.reduceEq, Nat.reduceBEq, List.replicate, List.set, if_false, if_true, ne_eq, false_implies, implies_true, evA, tyA, d2]; (repeat (with_reducible refine And.intro ?_ ?_; focus ((repeat' with_reducible apply And.intro) <;> (first | omega | with_reducible trivial | with_reducible assumption)))); (with_reducible first | refine awp_id ?_ | refine id_call ?_ | refine id_and ?_ | refine id_ex ?_ | refine id_all ?_ | refine id_nat ?_ | refine id_le ?_))))
          refine awp_drawG ttok ((0, none) :: (1, none) :: (2, none) :: (3, none) :: (4, none) :: (7, none) :: (5, some [7]) :: (6, none) :: []) ([]) ([]) (by decide +kernel) fun O hO => ?_; simp only [OpsAre, Nat.reduceAdd, and_true, List.toList_toArray, List.append_eq, List.cons_append, List.nil_append] at hO; simp (maxSteps := 4000000) only [↓reduceIte, Nat.reduceLT, Nat.reduceEqDiff, reduceCtorEq, Nat.reduceAdd, Nat.reduceMul, Int.reduceLE, Int.reduceLT, Int.reduceToNat, Nat.reduceLeDiff, Nat.reduceSub, Int.reduceEq, Nat.reduceBEq, List.replicate, List.set, if_false, if_true, ne_eq, false_implies, implies_true, evA, tyA, hO, iis_len, hgq]; (repeat (with_reducible refine And.intro ?_ ?_; focus ((repeat' with_reducible apply And.intro) <;> (first | omega | with_reducible trivial | with_reducible assumption))))
          refine callVC_mk fnok17 hOu rfl ?_
          simp (maxSteps := 4000000) only [↓reduceIte, Nat.reduceLT, Nat.reduceEqDiff, reduceCtorEq, Nat.reduceAdd, Nat.reduceMul, Int.reduceLE, Int.reduceLT, Int.reduceToNat, Nat.reduceLeDiff, Nat.reduceSub, Int.reduceEq, Nat.reduceBEq, List.replicate, List.set, if_false, if_true, ne_eq, false_implies, implies_true, evA, tyA, hO, nfaD, iis_len, hgq, ints_len]
          (repeat (with_reducible refine And.intro ?_ ?_; focus ((repeat' with_reducible apply And.intro) <;> (first | omega | with_reducible trivial | with_reducible assumption))))
          (repeat (first | refine awp_seq ?_ | refine awp_block ?_ | ((first | refine awp_skip ?_ | refine awp_exit ?_ | refine awp_reg ttok ?_ | (refine awp_draw ttok ?dr_calm ?_; (case dr_calm => decide +kernel)) | refine awp_condM ?_); simp (maxSteps := 4000000) only [↓reduceIte, Nat.reduceLT, Nat.reduceEqDiff, reduceCtorEq, Nat.reduceAdd, Nat.reduceMul, Int.reduceLE, Int.reduceLT, Int.reduceToNat, Nat.reduceLeDiff, Nat.reduceSub, Int.reduceEq, Nat.reduceBEq, List.replicate, List.set, if_false, if_true, ne_eq, false_implies, implies_true, evA, tyA]; (repeat (with_reducible refine And.intro ?_ ?_; focus ((repeat' with_reducible apply And.intro) <;> (first | omega | with_reducible trivial | with_reducible assumption)))); (with_reducible first | refine awp_id ?_ | refine id_call ?_ | refine id_and ?_ | refine id_ex ?_ | refine id_all ?_ | refine id_nat ?_ | refine id_le ?_))))
          have hout := outL_iff (L := L) (M := M) (S := S)
          have hol : (outL L M S).length ≤ L := onL_len _ _
          have hlo := layO_out L M Q S
          have hfl := fun ks => (hdq.fold S ks)
          generalize hkE : outL L M S = ks at *
          refine awp_loop (X := Nat) (fun j => mkSM 118 [(1, .ptr 1000 0 0), (2, .ptr 1001 0 0), (4, .own 4005 0 (dFold M S q (ks.take j)).length), (5, .v (.map (some mb))), (6, .ptr 6003 0 0), (7, i64 i), (8, .own 10002 0 L), (57, .sl false (ints ks)), (58, i64 ks.length), (59, i64 j)]
              [(1000, { sz := 4, rows := [[i64 L, i64 st, .sl false (bos F), .sl false (mmv M)]], flat := false }), (1001, { sz := 4, rows := [[i64 0, i64 0, .sl true [], .sl true []]], flat := false }), (4005, { sz := 1, rows := iis (dFold M S q (ks.take j)) }), (6003, { sz := 4, rows := [[i64 L, i64 0, .own 80001 0 i, .own 80002 0 i]], flat := false }), (80001, { sz := 1, rows := bos ((dFin F Q).take i) }), (80002, { sz := 1, rows := iis ((dNx L M Q).take i) }), (10002, { sz := 1, rows := ints (layO (fun a => dNum M Q S (a : Int)) L (ks.take j)) })] ⟨mb, .str, ixM strK (dFold M S q (ks.take j)) 0⟩)
            (fun j => j ≤ ks.length) (fun j => ks.length - j) 0 (Nat.zero_le _) ?_ ?_
          · refine mkSM_le rfl ?_ ?_ ?_
            · simp (maxSteps := 4000000) only [↓reduceIte, Nat.reduceLT, Nat.reduceEqDiff, reduceCtorEq, Nat.reduceAdd, Nat.reduceMul, Int.reduceLE, Int.reduceLT, Int.reduceToNat, Nat.reduceLeDiff, Nat.reduceSub, Int.reduceEq, Nat.reduceBEq, List.replicate, List.set, if_false, if_true, ne_eq, false_implies, implies_true, evA, dFold]
              try rfl
            · simp (maxSteps := 4000000) only [↓reduceIte, Nat.reduceLT, Nat.reduceEqDiff, reduceCtorEq, Nat.reduceAdd, Nat.reduceMul, Int.reduceLE, Int.reduceLT, Int.reduceToNat, Nat.reduceLeDiff, Nat.reduceSub, Int.reduceEq, Nat.reduceBEq, List.replicate, List.set, if_false, if_true, ne_eq, false_implies, implies_true, evA, dFold]
              try rfl
            · simp (maxSteps := 4000000) only [↓reduceIte, Nat.reduceLT, Nat.reduceEqDiff, reduceCtorEq, Nat.reduceAdd, Nat.reduceMul, Int.reduceLE, Int.reduceLT, Int.reduceToNat, Nat.reduceLeDiff, Nat.reduceSub, Int.reduceEq, Nat.reduceBEq, List.replicate, List.set, if_false, if_true, ne_eq, false_implies, implies_true, evA, dFold]
              try rfl
          · intro j hj
            have hlq := hlen (hfl (ks.take j))
            have hll := layO_len (fun a => dNum M Q S (a : Int)) L (ks.take j)
            by_cases hjlt : j < ks.length
            · have d3 : decide ((j : Int) < (ks.length : Int)) = true := by simpa using hjlt
              have hwj : IntKind.i64.wrap ((j : Int) + 1) = ((j + 1 : Nat) : Int) := i64_in (by omega) (by omega)
              have hgk := ints_get hjlt
              obtain ⟨a, ha, haL, hne⟩ := (hout _).1 (getD_mem hjlt (0 : Int))
              have htk := take_snoc hjlt (0 : Int)
              rw [ha] at hgk htk hne
              have hnq : dFold M S q (ks.take (j + 1)) = addQ (dFold M S q (ks.take j)) (dTo M S (a : Int)) := by rw [htk, dFold_snoc]
              have hnl : layO (fun a => dNum M Q S (a : Int)) L (ks.take (j + 1)) = (layO (fun a => dNum M Q S (a : Int)) L (ks.take j)).set a (dNum M Q S (a : Int)) := by rw [htk, layO_set haL]
              obtain ⟨u, hu⟩ := hrow (ks := ks.take (j + 1)) (ls := ks.drop (j + 1)) (List.take_append_drop _ _).symm
              have hdn : dNum M Q S (a : Int) = dNum M (addQ (dFold M S q (ks.take j)) (dTo M S (a : Int))) S (a : Int) := by
                rw [hu, hnq]
                exact dNum_pre (addQ_has _ _)
              have hdv : dNum M (addQ (dFold M S q (ks.take j)) (dTo M S (a : Int))) S (a : Int) = (((addQ (dFold M S q (ks.take j)) (dTo M S (a : Int))).idxOf (dTo M S (a : Int)) : Nat) : Int) := by
                unfold dNum; rw [if_neg (by rw [hne]; simp)]
              rw [hdn, hdv] at hnl
              have hSt := c_EStep h (by omega) st F false S (by omega) hR (a : Int)
              have hsl : (stepL M S (a : Int)).length ≤ M.length := onL_len _ _
              have hCl := c_EClose h ⟨by omega, by omega⟩ st F false (stepL M S (a : Int)) (by omega) hR
              have hdT : dTo M S (a : Int) = cloL M (stepL M S (a : Int)) := rfl
              have hdI := hfl (ks.take j)
              have hpre2 : ∃ u, dFold M S q (ks.take j) = q ++ u := dFold_pre M S _ q
              have hte : (dTo M S (a : Int)).length ≤ k ∧ ∀ x ∈ dTo M S (a : Int), 0 ≤ x ∧ x < (k : Int) := by
                have := (hdI.add S (a : Int)).entry (addQ_has _ _)
                rw [hkl] at this
                exact this
              rw [← hdT] at hCl
              generalize dTo M S (a : Int) = T at *
              generalize dFold M S q (ks.take j) = p at *
              generalize layO (fun a => dNum M Q S (a : Int)) L (ks.take j) = ro at *
              have hgp : (iis p).getD i [] = [.sl false (ints S)] := by
                obtain ⟨v, rfl⟩ := hpre2
                rw [← iis_app, getD_app_lt (by rw [iis_len]; exact hlt)]
                exact hgq
              have hip : i < p.length := by
                obtain ⟨v, rfl⟩ := hpre2
                rw [List.length_append]; omega
              have hKy := c_DKey false T (by omega) fun x hx => by have := hte.2 x hx; omega
              unfold strK at hKy
              have hmk : ∀ z ∈ p, keyEq (strK T) (strK z) = (z == T) := fun z hz => keyEq_str (fun x hx => by have := hte.2 x hx; omega) (fun x hx => by have := (hdI.entry hz).2 x hx; omega)
              have hget : mget (.string (kStr T)) (ixM strK p 0) = _ := mget_ix strK T p 0 hmk
              have hset : _ → mset (.string (kStr T)) _ (ixM strK p 0) = _ := mset_ix strK T p 0 hmk
              rw [Nat.zero_add] at hget hset
              have hro := ints_get (l := ro) (i := a) (by omega)
              have hse : ∀ (x : Int), (ints ro).set a [D.v (Value.int IntKind.i64 x)] = ints (ro.set a x) := fun x => by simp [ints]
              have hpt : List.take p.length p = p := List.take_of_length_le (Nat.le_refl _)
              have hr2 : ∀ z : List Int, (∀ row ∈ [[D.sl false (ints z)]], row.length = 1) = True := fun z => by simp
              (repeat (first | refine awp_seq ?_ | refine awp_block ?_ | ((first | refine awp_skip ?_ | refine awp_exit ?_ | refine awp_reg ttok ?_ | (refine awp_draw ttok ?dr_calm ?_; (case dr_calm => decide +kernel)) | refine awp_condM ?_); simp (maxSteps := 4000000) only [↓reduceIte, Nat.reduceLT, Nat.reduceEqDiff, reduceCtorEq, Nat.reduceAdd, Nat.reduceMul, Int.reduceLE, Int.reduceLT, Int.reduceToNat, Nat.reduceLeDiff, Nat.reduceSub, Int.reduceEq, Nat.reduceBEq, List.replicate, List.set, if_false, if_true, ne_eq, false_implies, implies_true, evA, tyA, d3, hgk]; (repeat (with_reducible refine And.intro ?_ ?_; focus ((repeat' with_reducible apply And.intro) <;> (first | omega | with_reducible trivial | with_reducible assumption)))); (with_reducible first | refine awp_id ?_ | refine id_call ?_ | refine id_and ?_ | refine id_ex ?_ | refine id_all ?_ | refine id_nat ?_ | refine id_le ?_))))
              refine awp_drawG ttok ((0, none) :: (1, none) :: (2, none) :: (3, none) :: (4, none) :: (5, none) :: (6, none) :: (7, some [0]) :: (8, some []) :: (9, none) :: []) ([]) ([]) (by decide +kernel) fun O hO => ?_; simp only [OpsAre, Nat.reduceAdd, and_true, List.toList_toArray, List.append_eq, List.cons_append, List.nil_append] at hO; simp (maxSteps := 4000000) only [↓reduceIte, Nat.reduceLT, Nat.reduceEqDiff, reduceCtorEq, Nat.reduceAdd, Nat.reduceMul, Int.reduceLE, Int.reduceLT, Int.reduceToNat, Nat.reduceLeDiff, Nat.reduceSub, Int.reduceEq, Nat.reduceBEq, List.replicate, List.set, if_false, if_true, ne_eq, false_implies, implies_true, evA, tyA, hO, nfaD, iis_len, hgp]; (repeat (with_reducible refine And.intro ?_ ?_; focus ((repeat' with_reducible apply And.intro) <;> (first | omega | with_reducible trivial | with_reducible assumption))))
              refine callVC_mk fnok14 hSt rfl ?_
              simp (maxSteps := 4000000) only [↓reduceIte, Nat.reduceLT, Nat.reduceEqDiff, reduceCtorEq, Nat.reduceAdd, Nat.reduceMul, Int.reduceLE, Int.reduceLT, Int.reduceToNat, Nat.reduceLeDiff, Nat.reduceSub, Int.reduceEq, Nat.reduceBEq, List.replicate, List.set, if_false, if_true, ne_eq, false_implies, implies_true, evA, tyA, hO, nfaD, iis_len, hgp]
              (repeat (with_reducible refine And.intro ?_ ?_; focus ((repeat' with_reducible apply And.intro) <;> (first | omega | with_reducible trivial | with_reducible assumption))))
              refine callVC_mk fnok15 hCl rfl ?_
              simp (maxSteps := 4000000) only [↓reduceIte, Nat.reduceLT, Nat.reduceEqDiff, reduceCtorEq, Nat.reduceAdd, Nat.reduceMul, Int.reduceLE, Int.reduceLT, Int.reduceToNat, Nat.reduceLeDiff, Nat.reduceSub, Int.reduceEq, Nat.reduceBEq, List.replicate, List.set, if_false, if_true, ne_eq, false_implies, implies_true, evA, tyA, hO, nfaD]
              (repeat (with_reducible refine And.intro ?_ ?_; focus ((repeat' with_reducible apply And.intro) <;> (first | omega | with_reducible trivial | with_reducible assumption))))
              (repeat (first | refine awp_seq ?_ | refine awp_block ?_ | ((first | refine awp_skip ?_ | refine awp_exit ?_ | refine awp_reg ttok ?_ | (refine awp_draw ttok ?dr_calm ?_; (case dr_calm => decide +kernel)) | refine awp_condM ?_); simp (maxSteps := 4000000) only [↓reduceIte, Nat.reduceLT, Nat.reduceEqDiff, reduceCtorEq, Nat.reduceAdd, Nat.reduceMul, Int.reduceLE, Int.reduceLT, Int.reduceToNat, Nat.reduceLeDiff, Nat.reduceSub, Int.reduceEq, Nat.reduceBEq, List.replicate, List.set, if_false, if_true, ne_eq, false_implies, implies_true, evA, tyA]; (repeat (with_reducible refine And.intro ?_ ?_; focus ((repeat' with_reducible apply And.intro) <;> (first | omega | with_reducible trivial | with_reducible assumption)))); (with_reducible first | refine awp_id ?_ | refine id_call ?_ | refine id_and ?_ | refine id_ex ?_ | refine id_all ?_ | refine id_nat ?_ | refine id_le ?_))))
              refine callVC_scal fnok34 hKy rfl ?_
              cases hcn : p.contains T
              · rw [hcn, if_neg (by simp)] at hget
                have hset := hset hcn
                have hadd : addQ p T = p ++ [T] := by unfold addQ; rw [hcn, if_neg (by simp)]
                have hix : (p ++ [T]).idxOf T = p.length := by
                  rw [List.idxOf_append, if_neg (by simpa using hcn)]
                  simp
                rw [hadd, hix] at hnl
                rw [hadd] at hnq
                simp (maxSteps := 4000000) only [↓reduceIte, Nat.reduceLT, Nat.reduceEqDiff, reduceCtorEq, Nat.reduceAdd, Nat.reduceMul, Int.reduceLE, Int.reduceLT, Int.reduceToNat, Nat.reduceLeDiff, Nat.reduceSub, Int.reduceEq, Nat.reduceBEq, List.replicate, List.set, if_false, if_true, ne_eq, false_implies, implies_true, evA, tyA, hmT, hget]
                (repeat (with_reducible refine And.intro ?_ ?_; focus ((repeat' with_reducible apply And.intro) <;> (first | omega | with_reducible trivial | with_reducible assumption))))
                (repeat (first | refine awp_seq ?_ | refine awp_block ?_ | ((first | refine awp_skip ?_ | refine awp_exit ?_ | refine awp_reg ttok ?_ | (refine awp_draw ttok ?dr_calm ?_; (case dr_calm => decide +kernel)) | refine awp_condM ?_); simp (maxSteps := 4000000) only [↓reduceIte, Nat.reduceLT, Nat.reduceEqDiff, reduceCtorEq, Nat.reduceAdd, Nat.reduceMul, Int.reduceLE, Int.reduceLT, Int.reduceToNat, Nat.reduceLeDiff, Nat.reduceSub, Int.reduceEq, Nat.reduceBEq, List.replicate, List.set, if_false, if_true, ne_eq, false_implies, implies_true, evA, tyA, iis_len]; (repeat (with_reducible refine And.intro ?_ ?_; focus ((repeat' with_reducible apply And.intro) <;> (first | omega | with_reducible trivial | with_reducible assumption)))); (with_reducible first | refine awp_id ?_ | refine id_call ?_ | refine id_and ?_ | refine id_ex ?_ | refine id_all ?_ | refine id_nat ?_ | refine id_le ?_))))
                refine callVC_scal fnok34 hKy rfl ?_
                simp (maxSteps := 4000000) only [↓reduceIte, Nat.reduceLT, Nat.reduceEqDiff, reduceCtorEq, Nat.reduceAdd, Nat.reduceMul, Int.reduceLE, Int.reduceLT, Int.reduceToNat, Nat.reduceLeDiff, Nat.reduceSub, Int.reduceEq, Nat.reduceBEq, List.replicate, List.set, if_false, if_true, ne_eq, false_implies, implies_true, evA, tyA, hmT, hset, iis_len]
                (repeat (with_reducible refine And.intro ?_ ?_; focus ((repeat' with_reducible apply And.intro) <;> (first | omega | with_reducible trivial | with_reducible assumption))))
                (repeat (first | refine awp_seq ?_ | refine awp_block ?_ | ((first | refine awp_skip ?_ | refine awp_exit ?_ | refine awp_reg ttok ?_ | (refine awp_draw ttok ?dr_calm ?_; (case dr_calm => decide +kernel)) | refine awp_condM ?_); simp (maxSteps := 4000000) only [↓reduceIte, Nat.reduceLT, Nat.reduceEqDiff, reduceCtorEq, Nat.reduceAdd, Nat.reduceMul, Int.reduceLE, Int.reduceLT, Int.reduceToNat, Nat.reduceLeDiff, Nat.reduceSub, Int.reduceEq, Nat.reduceBEq, List.replicate, List.set, if_false, if_true, ne_eq, false_implies, implies_true, evA, tyA, iis_len, iis_take, hpt, hr2, ints_len, hll, hro, hwj]; (repeat (with_reducible refine And.intro ?_ ?_; focus ((repeat' with_reducible apply And.intro) <;> (first | omega | with_reducible trivial | with_reducible assumption)))); (with_reducible first | refine awp_id ?_ | refine id_call ?_ | refine id_and ?_ | refine id_ex ?_ | refine id_all ?_ | refine id_nat ?_ | refine id_le ?_))))
                refine ⟨j + 1, by omega, by omega, ?_⟩
                refine mkSM_le rfl ?_ ?_ ?_
                · simp (maxSteps := 4000000) only [↓reduceIte, Nat.reduceLT, Nat.reduceEqDiff, reduceCtorEq, Nat.reduceAdd, Nat.reduceMul, Int.reduceLE, Int.reduceLT, Int.reduceToNat, Nat.reduceLeDiff, Nat.reduceSub, Int.reduceEq, Nat.reduceBEq, List.replicate, List.set, if_false, if_true, ne_eq, false_implies, implies_true, evA, hnq, List.length_append]
                  try rfl
                · simp (maxSteps := 4000000) only [↓reduceIte, Nat.reduceLT, Nat.reduceEqDiff, reduceCtorEq, Nat.reduceAdd, Nat.reduceMul, Int.reduceLE, Int.reduceLT, Int.reduceToNat, Nat.reduceLeDiff, Nat.reduceSub, Int.reduceEq, Nat.reduceBEq, List.replicate, List.set, if_false, if_true, ne_eq, false_implies, implies_true, evA, hnq, List.length_append, hse, hnl, iis_take, hpt, iis_one, iis_app]
                · simp (maxSteps := 4000000) only [↓reduceIte, Nat.reduceLT, Nat.reduceEqDiff, reduceCtorEq, Nat.reduceAdd, Nat.reduceMul, Int.reduceLE, Int.reduceLT, Int.reduceToNat, Nat.reduceLeDiff, Nat.reduceSub, Int.reduceEq, Nat.reduceBEq, List.replicate, List.set, if_false, if_true, ne_eq, false_implies, implies_true, evA, hnq, List.length_append]
              · rw [hcn, if_pos rfl] at hget
                have hadd : addQ p T = p := by unfold addQ; rw [hcn, if_pos rfl]
                rw [hadd] at hnl hnq
                simp (maxSteps := 4000000) only [↓reduceIte, Nat.reduceLT, Nat.reduceEqDiff, reduceCtorEq, Nat.reduceAdd, Nat.reduceMul, Int.reduceLE, Int.reduceLT, Int.reduceToNat, Nat.reduceLeDiff, Nat.reduceSub, Int.reduceEq, Nat.reduceBEq, List.replicate, List.set, if_false, if_true, ne_eq, false_implies, implies_true, evA, tyA, hmT, hget]
                (repeat (with_reducible refine And.intro ?_ ?_; focus ((repeat' with_reducible apply And.intro) <;> (first | omega | with_reducible trivial | with_reducible assumption))))
                (repeat (first | refine awp_seq ?_ | refine awp_block ?_ | ((first | refine awp_skip ?_ | refine awp_exit ?_ | refine awp_reg ttok ?_ | (refine awp_draw ttok ?dr_calm ?_; (case dr_calm => decide +kernel)) | refine awp_condM ?_); simp (maxSteps := 4000000) only [↓reduceIte, Nat.reduceLT, Nat.reduceEqDiff, reduceCtorEq, Nat.reduceAdd, Nat.reduceMul, Int.reduceLE, Int.reduceLT, Int.reduceToNat, Nat.reduceLeDiff, Nat.reduceSub, Int.reduceEq, Nat.reduceBEq, List.replicate, List.set, if_false, if_true, ne_eq, false_implies, implies_true, evA, tyA, ints_len, hll, hro, hwj]; (repeat (with_reducible refine And.intro ?_ ?_; focus ((repeat' with_reducible apply And.intro) <;> (first | omega | with_reducible trivial | with_reducible assumption)))); (with_reducible first | refine awp_id ?_ | refine id_call ?_ | refine id_and ?_ | refine id_ex ?_ | refine id_all ?_ | refine id_nat ?_ | refine id_le ?_))))
                refine ⟨j + 1, by omega, by omega, ?_⟩
                refine mkSM_le rfl ?_ ?_ ?_
                · simp (maxSteps := 4000000) only [↓reduceIte, Nat.reduceLT, Nat.reduceEqDiff, reduceCtorEq, Nat.reduceAdd, Nat.reduceMul, Int.reduceLE, Int.reduceLT, Int.reduceToNat, Nat.reduceLeDiff, Nat.reduceSub, Int.reduceEq, Nat.reduceBEq, List.replicate, List.set, if_false, if_true, ne_eq, false_implies, implies_true, evA, hnq]
                  try rfl
                · simp (maxSteps := 4000000) only [↓reduceIte, Nat.reduceLT, Nat.reduceEqDiff, reduceCtorEq, Nat.reduceAdd, Nat.reduceMul, Int.reduceLE, Int.reduceLT, Int.reduceToNat, Nat.reduceLeDiff, Nat.reduceSub, Int.reduceEq, Nat.reduceBEq, List.replicate, List.set, if_false, if_true, ne_eq, false_implies, implies_true, evA, hnq, hse, hnl]
                · simp (maxSteps := 4000000) only [↓reduceIte, Nat.reduceLT, Nat.reduceEqDiff, reduceCtorEq, Nat.reduceAdd, Nat.reduceMul, Int.reduceLE, Int.reduceLT, Int.reduceToNat, Nat.reduceLeDiff, Nat.reduceSub, Int.reduceEq, Nat.reduceBEq, List.replicate, List.set, if_false, if_true, ne_eq, false_implies, implies_true, evA, hnq]
            · have d3 : decide ((j : Int) < (ks.length : Int)) = false := by simpa using hjlt
              have hjt : ks.take j = ks := List.take_of_length_le (by omega)
              rw [hjt] at hll hlq ⊢
              rw [hlo] at hll ⊢
              obtain ⟨v, hv⟩ := dFold_pre M S ks q
              have hgp : (iis (dFold M S q ks)).getD i [] = [.sl false (ints S)] := by
                rw [hv, ← iis_app, getD_app_lt (by rw [iis_len]; exact hlt)]
                exact hgq
              have hip : i < (dFold M S q ks).length := by rw [hv, List.length_append]; omega
              rw [← hnx] at hlq hgp hip ⊢
              obtain ⟨p, hpE⟩ : ∃ p, dQ L M z (i + 1) = p := ⟨_, rfl⟩
              rw [hpE] at hlq hgp hip ⊢
              have hQl : (dNx L M Q).length = Q.length := by simp [dNx]
              have hQf : (dFin F Q).length = Q.length := by simp [dFin]
              have hNs : (dNx L M Q).take (i + 1) = (dNx L M Q).take i ++ [(List.range L).map fun (a : Nat) => dNum M Q S (a : Int)] := by
                rw [take_snoc (by omega) []]
                unfold dNx
                rw [hsQ]
              have hFs : (dFin F Q).take (i + 1) = (dFin F Q).take i ++ [finL F S] := by
                rw [take_snoc (by omega) false]
                unfold dFin
                rw [hsQ]
              have hNt : ((dNx L M Q).take i).length = i := by rw [List.length_take]; omega
              have hFt : ((dFin F Q).take i).length = i := by rw [List.length_take]; omega
              have e2k : decide ((p.length : Int) > 2000) = false := by simp; omega
              have hwi : IntKind.i64.wrap ((i : Int) + 1) = ((i + 1 : Nat) : Int) := i64_in (by omega) (by omega)
              generalize ((List.range L).map fun (a : Nat) => dNum M Q S (a : Int)) = row at *
              have hft : List.take L row = row := List.take_of_length_le (by omega)
              have hr2 : ∀ z : List Int, (∀ row ∈ [[D.sl false (ints z)]], row.length = 1) = True := fun z => by simp
              have hr3 : ∀ z : Bool, (∀ row ∈ [[bo z]], row.length = 1) = True := fun z => by simp
              refine awp_pure 8 (d := .own 10002 0 L) (by simp (maxSteps := 4000000) only [↓reduceIte, Nat.reduceLT, Nat.reduceEqDiff, reduceCtorEq, Nat.reduceAdd, Nat.reduceMul, Int.reduceLE, Int.reduceLT, Int.reduceToNat, Nat.reduceLeDiff, Nat.reduceSub, Int.reduceEq, Nat.reduceBEq, List.replicate, List.set, if_false, if_true, ne_eq, false_implies, implies_true, evA]) (by simp (maxSteps := 4000000) only [↓reduceIte, Nat.reduceLT, Nat.reduceEqDiff, reduceCtorEq, Nat.reduceAdd, Nat.reduceMul, Int.reduceLE, Int.reduceLT, Int.reduceToNat, Nat.reduceLeDiff, Nat.reduceSub, Int.reduceEq, Nat.reduceBEq, List.replicate, List.set, if_false, if_true, ne_eq, false_implies, implies_true, evA]; rfl) (by simp (maxSteps := 4000000) only [↓reduceIte, Nat.reduceLT, Nat.reduceEqDiff, reduceCtorEq, Nat.reduceAdd, Nat.reduceMul, Int.reduceLE, Int.reduceLT, Int.reduceToNat, Nat.reduceLeDiff, Nat.reduceSub, Int.reduceEq, Nat.reduceBEq, List.replicate, List.set, if_false, if_true, ne_eq, false_implies, implies_true, evA, ints_len, hll]) ?_
              (repeat (first | refine awp_seq ?_ | refine awp_block ?_ | ((first | refine awp_skip ?_ | refine awp_exit ?_ | refine awp_reg ttok ?_ | (refine awp_draw ttok ?dr_calm ?_; (case dr_calm => decide +kernel)) | refine awp_condM ?_); simp (maxSteps := 4000000) only [↓reduceIte, Nat.reduceLT, Nat.reduceEqDiff, reduceCtorEq, Nat.reduceAdd, Nat.reduceMul, Int.reduceLE, Int.reduceLT, Int.reduceToNat, Nat.reduceLeDiff, Nat.reduceSub, Int.reduceEq, Nat.reduceBEq, List.replicate, List.set, if_false, if_true, ne_eq, false_implies, implies_true, evA, tyA, d3, e2k, iis_len, ints_take, hft, iis_take, iis_row, hNt, hr2]; (repeat (with_reducible refine And.intro ?_ ?_; focus ((repeat' with_reducible apply And.intro) <;> (first | omega | with_reducible trivial | with_reducible assumption)))); (with_reducible first | refine awp_id ?_ | refine id_call ?_ | refine id_and ?_ | refine id_ex ?_ | refine id_all ?_ | refine id_nat ?_ | refine id_le ?_))))
              refine awp_drawG ttok ((0, none) :: (1, none) :: (2, none) :: (3, none) :: (4, none) :: (5, none) :: (6, none) :: (7, some [0, 1]) :: (8, some [0, 1]) :: (9, some []) :: (10, none) :: (11, some []) :: []) ([]) ([]) (by decide +kernel) fun O hO => ?_; simp only [OpsAre, Nat.reduceAdd, and_true, List.toList_toArray, List.append_eq, List.cons_append, List.nil_append] at hO; simp (maxSteps := 4000000) only [↓reduceIte, Nat.reduceLT, Nat.reduceEqDiff, reduceCtorEq, Nat.reduceAdd, Nat.reduceMul, Int.reduceLE, Int.reduceLT, Int.reduceToNat, Nat.reduceLeDiff, Nat.reduceSub, Int.reduceEq, Nat.reduceBEq, List.replicate, List.set, if_false, if_true, ne_eq, false_implies, implies_true, evA, tyA, hO, hgp, iis_len, bos_len, bos_take, hFt, hr3]; (repeat (with_reducible refine And.intro ?_ ?_; focus ((repeat' with_reducible apply And.intro) <;> (first | omega | with_reducible trivial | with_reducible assumption))))
              refine callVC_scal fnok18 hFn rfl ?_
              simp (maxSteps := 4000000) only [↓reduceIte, Nat.reduceLT, Nat.reduceEqDiff, reduceCtorEq, Nat.reduceAdd, Nat.reduceMul, Int.reduceLE, Int.reduceLT, Int.reduceToNat, Nat.reduceLeDiff, Nat.reduceSub, Int.reduceEq, Nat.reduceBEq, List.replicate, List.set, if_false, if_true, ne_eq, false_implies, implies_true, evA, tyA, hO, nfaD, bos_len, bos_take, hFt, hr3]
              (repeat (with_reducible refine And.intro ?_ ?_; focus ((repeat' with_reducible apply And.intro) <;> (first | omega | with_reducible trivial | with_reducible assumption))))
              (repeat (first | refine awp_seq ?_ | refine awp_block ?_ | ((first | refine awp_skip ?_ | refine awp_exit ?_ | refine awp_reg ttok ?_ | (refine awp_draw ttok ?dr_calm ?_; (case dr_calm => decide +kernel)) | refine awp_condM ?_); simp (maxSteps := 4000000) only [↓reduceIte, Nat.reduceLT, Nat.reduceEqDiff, reduceCtorEq, Nat.reduceAdd, Nat.reduceMul, Int.reduceLE, Int.reduceLT, Int.reduceToNat, Nat.reduceLeDiff, Nat.reduceSub, Int.reduceEq, Nat.reduceBEq, List.replicate, List.set, if_false, if_true, ne_eq, false_implies, implies_true, evA, tyA, hwi]; (repeat (with_reducible refine And.intro ?_ ?_; focus ((repeat' with_reducible apply And.intro) <;> (first | omega | with_reducible trivial | with_reducible assumption)))); (with_reducible first | refine awp_id ?_ | refine id_call ?_ | refine id_and ?_ | refine id_ex ?_ | refine id_all ?_ | refine id_nat ?_ | refine id_le ?_))))
              refine ⟨i + 1, by rw [hpE]; omega, by omega, ?_⟩
              refine mkSM_le rfl ?_ ?_ ?_
              · simp (maxSteps := 4000000) only [↓reduceIte, Nat.reduceLT, Nat.reduceEqDiff, reduceCtorEq, Nat.reduceAdd, Nat.reduceMul, Int.reduceLE, Int.reduceLT, Int.reduceToNat, Nat.reduceLeDiff, Nat.reduceSub, Int.reduceEq, Nat.reduceBEq, List.replicate, List.set, if_false, if_true, ne_eq, false_implies, implies_true, evA, hpE]
              · simp (maxSteps := 4000000) only [↓reduceIte, Nat.reduceLT, Nat.reduceEqDiff, reduceCtorEq, Nat.reduceAdd, Nat.reduceMul, Int.reduceLE, Int.reduceLT, Int.reduceToNat, Nat.reduceLeDiff, Nat.reduceSub, Int.reduceEq, Nat.reduceBEq, List.replicate, List.set, if_false, if_true, ne_eq, false_implies, implies_true, evA, hpE, bos_take, bos_app, bos_one, hFs, iis_take, iis_app, iis_one, hNs, hFt, hNt]
              · simp (maxSteps := 4000000) only [↓reduceIte, Nat.reduceLT, Nat.reduceEqDiff, reduceCtorEq, Nat.reduceAdd, Nat.reduceMul, Int.reduceLE, Int.reduceLT, Int.reduceToNat, Nat.reduceLeDiff, Nat.reduceSub, Int.reduceEq, Nat.reduceBEq, List.replicate, List.set, if_false, if_true, ne_eq, false_implies, implies_true, evA, hpE]
    · have d1 : decide ((i : Int) < ((dQ L M z i).length : Int)) = false := by simpa using hlt
      have hQe := hend (i := i) (by omega) hlt
      rw [hQe] at hi hlt d1 hik ⊢
      have hei : i = Q.length := by omega
      have hQl : (dNx L M Q).length = Q.length := by simp [dNx]
      have hQf : (dFin F Q).length = Q.length := by simp [dFin]
      have hNt : (dNx L M Q).take i = dNx L M Q := List.take_of_length_le (by omega)
      have hFt : (dFin F Q).take i = dFin F Q := List.take_of_length_le (by omega)
      rw [hNt, hFt]
      rw [← hei] at hQl hQf
      refine awp_pureO 6003 (by simp (maxSteps := 4000000) only [↓reduceIte, Nat.reduceLT, Nat.reduceEqDiff, reduceCtorEq, Nat.reduceAdd, Nat.reduceMul, Int.reduceLE, Int.reduceLT, Int.reduceToNat, Nat.reduceLeDiff, Nat.reduceSub, Int.reduceEq, Nat.reduceBEq, List.replicate, List.set, if_false, if_true, ne_eq, false_implies, implies_true, evA]; rfl) rfl (by simp (maxSteps := 4000000) only [↓reduceIte, Nat.reduceLT, Nat.reduceEqDiff, reduceCtorEq, Nat.reduceAdd, Nat.reduceMul, Int.reduceLE, Int.reduceLT, Int.reduceToNat, Nat.reduceLeDiff, Nat.reduceSub, Int.reduceEq, Nat.reduceBEq, List.replicate, List.set, if_false, if_true, ne_eq, false_implies, implies_true, evA, bos_len, bos_take, iis_len, iis_take, hFt, hNt, hQl, hQf]; rfl) (by simp (maxSteps := 4000000) only [↓reduceIte, Nat.reduceLT, Nat.reduceEqDiff, reduceCtorEq, Nat.reduceAdd, Nat.reduceMul, Int.reduceLE, Int.reduceLT, Int.reduceToNat, Nat.reduceLeDiff, Nat.reduceSub, Int.reduceEq, Nat.reduceBEq, List.replicate, List.set, if_false, if_true, ne_eq, false_implies, implies_true, evA, bos_len, iis_len, hQl, hQf]) (by decide) ?_
      (repeat (first | refine awp_seq ?_ | refine awp_block ?_ | ((first | refine awp_skip ?_ | refine awp_exit ?_ | refine awp_reg ttok ?_ | (refine awp_draw ttok ?dr_calm ?_; (case dr_calm => decide +kernel)) | refine awp_condM ?_); simp (maxSteps := 4000000) only [↓reduceIte, Nat.reduceLT, Nat.reduceEqDiff, reduceCtorEq, Nat.reduceAdd, Nat.reduceMul, Int.reduceLE, Int.reduceLT, Int.reduceToNat, Nat.reduceLeDiff, Nat.reduceSub, Int.reduceEq, Nat.reduceBEq, List.replicate, List.set, if_false, if_true, ne_eq, false_implies, implies_true, evA, tyA, d1, iis_len]; (repeat (with_reducible refine And.intro ?_ ?_; focus ((repeat' with_reducible apply And.intro) <;> (first | omega | with_reducible trivial | with_reducible assumption)))); (with_reducible first | refine awp_id ?_ | refine id_call ?_ | refine id_and ?_ | refine id_ex ?_ | refine id_all ?_ | refine id_nat ?_ | refine id_le ?_))))
      exact awp_ret (endsV [] (.inr rfl) (by simp (maxSteps := 4000000) only [↓reduceIte, Nat.reduceLT, Nat.reduceEqDiff, reduceCtorEq, Nat.reduceAdd, Nat.reduceMul, Int.reduceLE, Int.reduceLT, Int.reduceToNat, Nat.reduceLeDiff, Nat.reduceSub, Int.reduceEq, Nat.reduceBEq, List.replicate, List.set, if_false, if_true, ne_eq, false_implies, implies_true, evA, tyA, dfaD]; rfl) trivial (by simp (maxSteps := 4000000) only [↓reduceIte, Nat.reduceLT, Nat.reduceEqDiff, reduceCtorEq, Nat.reduceAdd, Nat.reduceMul, Int.reduceLE, Int.reduceLT, Int.reduceToNat, Nat.reduceLeDiff, Nat.reduceSub, Int.reduceEq, Nat.reduceBEq, List.replicate, List.set, if_false, if_true, ne_eq, false_implies, implies_true, evA]))
end Go.Proofs.Ytbhjmioegdgpnaa
