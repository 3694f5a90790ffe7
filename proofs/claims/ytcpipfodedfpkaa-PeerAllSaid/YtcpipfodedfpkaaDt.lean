import Derived.Test.YtcpipfodedfpkaaCl
import Derived.Test.YtcpipfodedfpkaaIdx
import Derived.Test.YtcpipfodedfpkaaTy
import Derived.Test.YtcpipfodedfpkaaKm
set_option linter.unusedSimpArgs false
set_option linter.unusedVariables false
namespace Go.Proofs.Ytcpipfodedfpkaa
open Go.Ab
theorem clsF_len {F : List Bool} {N : List (List Int)} (h : N.length = F.length) : (clsF F N).length = F.length := clsR_len h _
theorem clsF_bd {F : List Bool} {N : List (List Int)} (h : N.length = F.length) : ∀ x ∈ clsF F N, -1 ≤ x ∧ x < (F.length : Int) := by
  rw [← clsF_fix h]
  intro x hx
  simp only [refL, List.mem_map, List.mem_range] at hx
  obtain ⟨i, hi, rfl⟩ := hx
  have := refI_bd (lv := liveL F N) (c := clsF F N) i hi
  omega
set_option maxRecDepth 20000 in
set_option maxHeartbeats 32000000 in
theorem c_MOfNo {L k : Nat} {N : List (List Int)} (h : NOk L k N) (st : Nat) (hst : st < k) (F : List Bool) (hF : F.length = k) (hL : L ≤ 100000) (hk : 1 ≤ k ∧ k ≤ 2000) (h0 : (clsF F N).getD st 0 < 0) :
    Contract Try.prog 43 [dfaD L st F N] (.tup [.agg [i64 0, i64 0, .sl true [], .sl true []], i64 13]) [] := by
  refine contract_of_awpV ttok (rs := [.cell 2 31, .tmp 3]) Try.func43 rfl Try.ntmps43 (by simp) rfl fun E => ?_
  have hl := h.len
  have hmay := c_May h st hst F hF hL hk
  have hcls := c_Classes h st hst F hF hL hk
  have hcl := clsF_len (F := F) (N := N) (by omega)
  generalize clsF F N = c at *
  have hgc := ints_get (l := c) (i := st) (by omega)
  have d0 : decide (c.getD st 0 < 0) = true := by simpa using h0
  (repeat (first | refine awp_seq ?_ | refine awp_block ?_ | ((first | refine awp_skip ?_ | refine awp_exit ?_ | refine awp_reg ttok ?_ | (refine awp_draw ttok ?dr_calm ?_; (case dr_calm => decide +kernel)) | refine awp_condM ?_); simp (maxSteps := 4000000) only [↓reduceIte, Nat.reduceLT, Nat.reduceEqDiff, reduceCtorEq, Nat.reduceAdd, Nat.reduceMul, Int.reduceLE, Int.reduceLT, Int.reduceToNat, Nat.reduceLeDiff, Nat.reduceSub, Int.reduceEq, Nat.reduceBEq, List.replicate, List.set, evB, tyA, dfaD]; (repeat (with_reducible refine And.intro ?_ ?_; exact sdX)); (with_reducible first | refine awp_id ?_ | refine id_call ?_ | refine id_and ?_ | refine id_ex ?_ | refine id_all ?_ | refine id_nat ?_ | refine id_le ?_))))
  refine callVC_scal fnok53 hmay rfl ?_
  simp (maxSteps := 4000000) only [↓reduceIte, Nat.reduceLT, Nat.reduceEqDiff, reduceCtorEq, Nat.reduceAdd, Nat.reduceMul, Int.reduceLE, Int.reduceLT, Int.reduceToNat, Nat.reduceLeDiff, Nat.reduceSub, Int.reduceEq, Nat.reduceBEq, List.replicate, List.set, evB, tyA]
  (repeat (with_reducible refine And.intro ?_ ?_; exact sdX))
  (repeat (first | refine awp_seq ?_ | refine awp_block ?_ | ((first | refine awp_skip ?_ | refine awp_exit ?_ | refine awp_reg ttok ?_ | (refine awp_draw ttok ?dr_calm ?_; (case dr_calm => decide +kernel)) | refine awp_condM ?_); simp (maxSteps := 4000000) only [↓reduceIte, Nat.reduceLT, Nat.reduceEqDiff, reduceCtorEq, Nat.reduceAdd, Nat.reduceMul, Int.reduceLE, Int.reduceLT, Int.reduceToNat, Nat.reduceLeDiff, Nat.reduceSub, Int.reduceEq, Nat.reduceBEq, List.replicate, List.set, evB, tyA]; (repeat (with_reducible refine And.intro ?_ ?_; exact sdX)); (with_reducible first | refine awp_id ?_ | refine id_call ?_ | refine id_and ?_ | refine id_ex ?_ | refine id_all ?_ | refine id_nat ?_ | refine id_le ?_))))
  refine callVC_mk fnok76 hcls rfl ?_
  simp (maxSteps := 4000000) only [↓reduceIte, Nat.reduceLT, Nat.reduceEqDiff, reduceCtorEq, Nat.reduceAdd, Nat.reduceMul, Int.reduceLE, Int.reduceLT, Int.reduceToNat, Nat.reduceLeDiff, Nat.reduceSub, Int.reduceEq, Nat.reduceBEq, List.replicate, List.set, evB, tyA]
  (repeat (with_reducible refine And.intro ?_ ?_; exact sdX))
  (repeat (first | refine awp_seq ?_ | refine awp_block ?_ | ((first | refine awp_skip ?_ | refine awp_exit ?_ | refine awp_reg ttok ?_ | (refine awp_draw ttok ?dr_calm ?_; (case dr_calm => decide +kernel)) | refine awp_condM ?_); simp (maxSteps := 4000000) only [↓reduceIte, Nat.reduceLT, Nat.reduceEqDiff, reduceCtorEq, Nat.reduceAdd, Nat.reduceMul, Int.reduceLE, Int.reduceLT, Int.reduceToNat, Nat.reduceLeDiff, Nat.reduceSub, Int.reduceEq, Nat.reduceBEq, List.replicate, List.set, evB, tyA, hgc, ints_len, hcl, hF, d0]; (repeat (with_reducible refine And.intro ?_ ?_; exact sdX)); (with_reducible first | refine awp_id ?_ | refine id_call ?_ | refine id_and ?_ | refine id_ex ?_ | refine id_all ?_ | refine id_nat ?_ | refine id_le ?_))))
  exact awp_ret (endsV [] (.inr rfl) (by simp (maxSteps := 4000000) only [↓reduceIte, Nat.reduceLT, Nat.reduceEqDiff, reduceCtorEq, Nat.reduceAdd, Nat.reduceMul, Int.reduceLE, Int.reduceLT, Int.reduceToNat, Nat.reduceLeDiff, Nat.reduceSub, Int.reduceEq, Nat.reduceBEq, List.replicate, List.set, evB, tyA]; rfl) trivial evX)
set_option maxRecDepth 20000 in
set_option maxHeartbeats 32000000 in
theorem c_MOf {L k : Nat} {N : List (List Int)} (h : NOk L k N) (st : Nat) (hst : st < k) (F : List Bool) (hF : F.length = k) (hL : L ≤ 100000) (hk : 1 ≤ k ∧ k ≤ 2000) (h0 : 0 ≤ (clsF F N).getD st 0) :
    Contract Try.prog 43 [dfaD L st F N] (.tup [dfaD L 0 (oFin F (oAll N (clsF F N) st)) (oNx N (clsF F N) (oAll N (clsF F N) st)), i64 0]) [] := by
  refine contract_of_awpV ttok (rs := [.cell 2 31, .tmp 3]) Try.func43 rfl Try.ntmps43 (by simp) rfl fun E => ?_
  have hl := h.len
  have hmay := c_May h st hst F hF hL hk
  have hcls := c_Classes h st hst F hF hL hk
  have hcl := clsF_len (F := F) (N := N) (by omega)
  have hcb := clsF_bd (F := F) (N := N) (by omega)
  generalize clsF F N = c at *
  rw [hF] at hcl hcb
  have hgc := ints_get (l := c) (i := st) (by omega)
  have d0 : decide (c.getD st 0 < 0) = false := by simpa using h0
  have hoi := fun i => oQ_oi (N := N) (c := c) h hst h0 i
  have hlen := fun i => (hoi i).len (fun x hx => (hcb x hx).2) hcl
  have z0 : ∀ n : Nat, List.replicate (n : Int).toNat [D.v (Value.int IntKind.i64 0)] = ints (List.replicate n 0) := fun n => by simp [ints]
  have hmT : mapT tt 113 = some (MKind.int .i64, Value.int .i64 0) := by kernel_rfl
  (repeat (first | refine awp_seq ?_ | refine awp_block ?_ | ((first | refine awp_skip ?_ | refine awp_exit ?_ | refine awp_reg ttok ?_ | (refine awp_draw ttok ?dr_calm ?_; (case dr_calm => decide +kernel)) | refine awp_condM ?_); simp (maxSteps := 4000000) only [↓reduceIte, Nat.reduceLT, Nat.reduceEqDiff, reduceCtorEq, Nat.reduceAdd, Nat.reduceMul, Int.reduceLE, Int.reduceLT, Int.reduceToNat, Nat.reduceLeDiff, Nat.reduceSub, Int.reduceEq, Nat.reduceBEq, List.replicate, List.set, evB, tyA, dfaD]; (repeat (with_reducible refine And.intro ?_ ?_; exact sdX)); (with_reducible first | refine awp_id ?_ | refine id_call ?_ | refine id_and ?_ | refine id_ex ?_ | refine id_all ?_ | refine id_nat ?_ | refine id_le ?_))))
  refine callVC_scal fnok53 hmay rfl ?_
  simp (maxSteps := 4000000) only [↓reduceIte, Nat.reduceLT, Nat.reduceEqDiff, reduceCtorEq, Nat.reduceAdd, Nat.reduceMul, Int.reduceLE, Int.reduceLT, Int.reduceToNat, Nat.reduceLeDiff, Nat.reduceSub, Int.reduceEq, Nat.reduceBEq, List.replicate, List.set, evB, tyA]
  (repeat (with_reducible refine And.intro ?_ ?_; exact sdX))
  (repeat (first | refine awp_seq ?_ | refine awp_block ?_ | ((first | refine awp_skip ?_ | refine awp_exit ?_ | refine awp_reg ttok ?_ | (refine awp_draw ttok ?dr_calm ?_; (case dr_calm => decide +kernel)) | refine awp_condM ?_); simp (maxSteps := 4000000) only [↓reduceIte, Nat.reduceLT, Nat.reduceEqDiff, reduceCtorEq, Nat.reduceAdd, Nat.reduceMul, Int.reduceLE, Int.reduceLT, Int.reduceToNat, Nat.reduceLeDiff, Nat.reduceSub, Int.reduceEq, Nat.reduceBEq, List.replicate, List.set, evB, tyA]; (repeat (with_reducible refine And.intro ?_ ?_; exact sdX)); (with_reducible first | refine awp_id ?_ | refine id_call ?_ | refine id_and ?_ | refine id_ex ?_ | refine id_all ?_ | refine id_nat ?_ | refine id_le ?_))))
  refine callVC_mk fnok76 hcls rfl ?_
  simp (maxSteps := 4000000) only [↓reduceIte, Nat.reduceLT, Nat.reduceEqDiff, reduceCtorEq, Nat.reduceAdd, Nat.reduceMul, Int.reduceLE, Int.reduceLT, Int.reduceToNat, Nat.reduceLeDiff, Nat.reduceSub, Int.reduceEq, Nat.reduceBEq, List.replicate, List.set, evB, tyA]
  (repeat (with_reducible refine And.intro ?_ ?_; exact sdX))
  (repeat (first | refine awp_seq ?_ | refine awp_block ?_ | ((first | refine awp_skip ?_ | refine awp_exit ?_ | refine awp_reg ttok ?_ | (refine awp_draw ttok ?dr_calm ?_; (case dr_calm => decide +kernel)) | refine awp_condM ?_); simp (maxSteps := 4000000) only [↓reduceIte, Nat.reduceLT, Nat.reduceEqDiff, reduceCtorEq, Nat.reduceAdd, Nat.reduceMul, Int.reduceLE, Int.reduceLT, Int.reduceToNat, Nat.reduceLeDiff, Nat.reduceSub, Int.reduceEq, Nat.reduceBEq, List.replicate, List.set, evB, tyA, hgc, ints_len, hcl, hF, d0, hmT]; (repeat (with_reducible refine And.intro ?_ ?_; exact sdX)); (with_reducible first | refine awp_id ?_ | refine id_call ?_ | refine id_and ?_ | refine id_ex ?_ | refine id_all ?_ | refine id_nat ?_ | refine id_le ?_))))
  intro mb
  (repeat (first | refine awp_seq ?_ | refine awp_block ?_ | ((first | refine awp_skip ?_ | refine awp_exit ?_ | refine awp_reg ttok ?_ | (refine awp_draw ttok ?dr_calm ?_; (case dr_calm => decide +kernel)) | refine awp_condM ?_); simp (maxSteps := 4000000) only [↓reduceIte, Nat.reduceLT, Nat.reduceEqDiff, reduceCtorEq, Nat.reduceAdd, Nat.reduceMul, Int.reduceLE, Int.reduceLT, Int.reduceToNat, Nat.reduceLeDiff, Nat.reduceSub, Int.reduceEq, Nat.reduceBEq, List.replicate, List.set, evB, tyA, hgc, ints_len, hcl, hF, d0, hmT]; (repeat (with_reducible refine And.intro ?_ ?_; exact sdX)); (with_reducible first | refine awp_id ?_ | refine id_call ?_ | refine id_and ?_ | refine id_ex ?_ | refine id_all ?_ | refine id_nat ?_ | refine id_le ?_))))
  refine ⟨by omega, ?_⟩
  (repeat (first | refine awp_seq ?_ | refine awp_block ?_ | ((first | refine awp_skip ?_ | refine awp_exit ?_ | refine awp_reg ttok ?_ | (refine awp_draw ttok ?dr_calm ?_; (case dr_calm => decide +kernel)) | refine awp_condM ?_); simp (maxSteps := 4000000) only [↓reduceIte, Nat.reduceLT, Nat.reduceEqDiff, reduceCtorEq, Nat.reduceAdd, Nat.reduceMul, Int.reduceLE, Int.reduceLT, Int.reduceToNat, Nat.reduceLeDiff, Nat.reduceSub, Int.reduceEq, Nat.reduceBEq, List.replicate, List.set, evB, tyA]; (repeat (with_reducible refine And.intro ?_ ?_; exact sdX)); (with_reducible first | refine awp_id ?_ | refine id_call ?_ | refine id_and ?_ | refine id_ex ?_ | refine id_all ?_ | refine id_nat ?_ | refine id_le ?_))))
  refine awp_own_nilC 9003 0 2 80001 1 (by decide) (by simp (maxSteps := 4000000) only [↓reduceIte, Nat.reduceLT, Nat.reduceEqDiff, reduceCtorEq, Nat.reduceAdd, Nat.reduceMul, Int.reduceLE, Int.reduceLT, Int.reduceToNat, Nat.reduceLeDiff, Nat.reduceSub, Int.reduceEq, Nat.reduceBEq, List.replicate, List.set, evB]; rfl) rfl rfl rfl ?_
  refine awp_own_nilC 9003 0 3 80002 1 (by decide) (by simp (maxSteps := 4000000) only [↓reduceIte, Nat.reduceLT, Nat.reduceEqDiff, reduceCtorEq, Nat.reduceAdd, Nat.reduceMul, Int.reduceLE, Int.reduceLT, Int.reduceToNat, Nat.reduceLeDiff, Nat.reduceSub, Int.reduceEq, Nat.reduceBEq, List.replicate, List.set, evB]; rfl) rfl rfl rfl ?_
  have hgrow := fun i a => oRow_all (N := N) (c := c) (st := st) (i := i) (a := a)
  have hstop := fun i => oAll_of (N := N) (c := c) (st := st) (i := i)
  generalize hQE : oAll N c st = Q at *
  refine awp_loop (X := Nat) (fun i => mkSM 123 [(1, .ptr 1000 0 0), (2, .ptr 1001 0 0), (4, .sl false (ints c)), (5, .v (.map (some mb))), (6, .own 8002 0 (oQ N c st i).length), (7, .ptr 9003 0 0), (8, i64 i)]
      [(1000, { sz := 4, rows := [[i64 L, i64 st, .sl false (bos F), .sl false (iis N)]], flat := false }), (1001, { sz := 4, rows := [[i64 0, i64 0, .sl true [], .sl true []]], flat := false }), (8002, { sz := 1, rows := ints (oQ N c st i) }), (9003, { sz := 4, rows := [[i64 L, i64 0, .own 80001 0 i, .own 80002 0 i]], flat := false }), (80001, { sz := 1, rows := bos ((oFin F Q).take i) }), (80002, { sz := 1, rows := iis ((oNx N c Q).take i) })] ⟨mb, .int .i64, ixM intK ((oQ N c st i).map (cl c)) 0⟩)
    (fun i => i ≤ (oQ N c st i).length) (fun i => 3000 - i) 0 (Nat.zero_le _) ?_ ?_
  · refine mkSM_le rfl ?_ ?_ ?_
    · simp (maxSteps := 4000000) only [↓reduceIte, Nat.reduceLT, Nat.reduceEqDiff, reduceCtorEq, Nat.reduceAdd, Nat.reduceMul, Int.reduceLE, Int.reduceLT, Int.reduceToNat, Nat.reduceLeDiff, Nat.reduceSub, Int.reduceEq, Nat.reduceBEq, List.replicate, List.set, evB, oQ]
      try rfl
    · simp (maxSteps := 4000000) only [↓reduceIte, Nat.reduceLT, Nat.reduceEqDiff, reduceCtorEq, Nat.reduceAdd, Nat.reduceMul, Int.reduceLE, Int.reduceLT, Int.reduceToNat, Nat.reduceLeDiff, Nat.reduceSub, Int.reduceEq, Nat.reduceBEq, List.replicate, List.set, evB, oQ]
      exact ⟨rfl, rfl, rfl⟩
    · simp (maxSteps := 4000000) only [↓reduceIte, Nat.reduceLT, Nat.reduceEqDiff, reduceCtorEq, Nat.reduceAdd, Nat.reduceMul, Int.reduceLE, Int.reduceLT, Int.reduceToNat, Nat.reduceLeDiff, Nat.reduceSub, Int.reduceEq, Nat.reduceBEq, List.replicate, List.set, evB, oQ, List.map_cons, List.map_nil]
      try rfl
  · intro i hi
    by_cases hlt : i < (oQ N c st i).length
    · have d1 : decide ((i : Int) < ((oQ N c st i).length : Int)) = true := by simpa using hlt
      have hik := hlen i
      obtain ⟨s, hs, hsk, hsc⟩ := (hoi i).get hlt
      have hgq := ints_get hlt
      have hnx : oQ N c st (i + 1) = oStp N c (oQ N c st i) i := by rw [oQ, if_pos hlt]
      unfold oStp at hnx
      have hgrow := fun a => hgrow i a hlt (by omega)
      have hrow := h.get hsk
      rw [hs] at hgq
      rw [hs, Int.toNat_natCast] at hgrow hnx
      rw [hrow.1] at hgrow hnx
      have hroi := oRow_oi (c := c) h (hoi i) hsk
      have hpre := fun a => oRow_pre (N := N) (c := c) (oQ N c st i) s a
      have hQi : ∃ v, Q = oQ N c st i ++ v := by
        obtain ⟨u, hu⟩ := hgrow 0 (Nat.zero_le _)
        exact ⟨u, hu⟩
      generalize hqE : oQ N c st i = q at *
      have hgi := iis_get (l := N) (i := s) (by omega)
      (repeat (first | refine awp_seq ?_ | refine awp_block ?_ | ((first | refine awp_skip ?_ | refine awp_exit ?_ | refine awp_reg ttok ?_ | (refine awp_draw ttok ?dr_calm ?_; (case dr_calm => decide +kernel)) | refine awp_condM ?_); simp (maxSteps := 4000000) only [↓reduceIte, Nat.reduceLT, Nat.reduceEqDiff, reduceCtorEq, Nat.reduceAdd, Nat.reduceMul, Int.reduceLE, Int.reduceLT, Int.reduceToNat, Nat.reduceLeDiff, Nat.reduceSub, Int.reduceEq, Nat.reduceBEq, List.replicate, List.set, evB, tyA, d1, z0, hgq, ints_len, hgi, iis_len, hl, hrow.1]; (repeat (with_reducible refine And.intro ?_ ?_; exact sdX)); (with_reducible first | refine awp_id ?_ | refine id_call ?_ | refine id_and ?_ | refine id_ex ?_ | refine id_all ?_ | refine id_nat ?_ | refine id_le ?_))))
      obtain ⟨g, hg⟩ : ∃ g : Nat → Int, g = fun a => oNum c Q ((N.getD s []).getD a 0) := ⟨_, rfl⟩
      refine awp_loop (X := Nat) (fun a => mkSM 123 [(1, .ptr 1000 0 0), (2, .ptr 1001 0 0), (4, .sl false (ints c)), (5, .v (.map (some mb))), (6, .own 8002 0 (oRow N c q s a).length), (7, .ptr 9003 0 0), (8, i64 i), (9, .own 13002 0 L), (56, .sl false (ints (N.getD s []))), (57, i64 L), (58, i64 a)]
          [(1000, { sz := 4, rows := [[i64 L, i64 st, .sl false (bos F), .sl false (iis N)]], flat := false }), (1001, { sz := 4, rows := [[i64 0, i64 0, .sl true [], .sl true []]], flat := false }), (8002, { sz := 1, rows := ints (oRow N c q s a) }), (9003, { sz := 4, rows := [[i64 L, i64 0, .own 80001 0 i, .own 80002 0 i]], flat := false }), (80001, { sz := 1, rows := bos ((oFin F Q).take i) }), (80002, { sz := 1, rows := iis ((oNx N c Q).take i) }), (13002, { sz := 1, rows := ints (fillP g L a) })] ⟨mb, .int .i64, ixM intK ((oRow N c q s a).map (cl c)) 0⟩)
        (fun a => a ≤ L) (fun a => L - a) 0 (Nat.zero_le _) ?_ ?_
      · refine mkSM_le rfl ?_ ?_ ?_
        · simp (maxSteps := 4000000) only [↓reduceIte, Nat.reduceLT, Nat.reduceEqDiff, reduceCtorEq, Nat.reduceAdd, Nat.reduceMul, Int.reduceLE, Int.reduceLT, Int.reduceToNat, Nat.reduceLeDiff, Nat.reduceSub, Int.reduceEq, Nat.reduceBEq, List.replicate, List.set, evB, oRow]
          try rfl
        · simp (maxSteps := 4000000) only [↓reduceIte, Nat.reduceLT, Nat.reduceEqDiff, reduceCtorEq, Nat.reduceAdd, Nat.reduceMul, Int.reduceLE, Int.reduceLT, Int.reduceToNat, Nat.reduceLeDiff, Nat.reduceSub, Int.reduceEq, Nat.reduceBEq, List.replicate, List.set, evB, oRow, fillP_zero]
          simp only [ints, List.map_replicate]
          rfl
        · simp (maxSteps := 4000000) only [↓reduceIte, Nat.reduceLT, Nat.reduceEqDiff, reduceCtorEq, Nat.reduceAdd, Nat.reduceMul, Int.reduceLE, Int.reduceLT, Int.reduceToNat, Nat.reduceLeDiff, Nat.reduceSub, Int.reduceEq, Nat.reduceBEq, List.replicate, List.set, evB, oRow]
          try rfl
      · intro a ha
        by_cases halt : a < L
        · have d2 : decide ((a : Int) < (L : Int)) = true := by simpa using halt
          have hwa : IntKind.i64.wrap ((a : Int) + 1) = ((a + 1 : Nat) : Int) := i64_in (by omega) (by omega)
          have hgt := ints_get (l := N.getD s []) (i := a) (by have := hrow.1; omega)
          have hrl := hrow.1
          have htb := h.at hsk halt
          have hoa := hroi a ha
          have hla := hoa.len (fun x hx => (hcb x hx).2) hcl
          have hst2 : oRow N c q s (a + 1) = oAdd c (oRow N c q s a) ((N.getD s []).getD a 0) := rfl
          have hga : g a = oNum c Q ((N.getD s []).getD a 0) := by rw [hg]
          obtain ⟨u, hu⟩ := hgrow (a + 1) (by omega)
          have hfl := fillP_len g L a
          have hfg := ints_get (l := fillP g L a) (i := a) (by omega)
          rw [fillP_get halt] at hfg
          have hset := fillP_set (g := g) halt
          have hse : ∀ (x : Int), (ints (fillP g L a)).set a [D.v (Value.int IntKind.i64 x)] = ints ((fillP g L a).set a x) := fun x => by simp [ints]
          rw [hst2] at hu
          generalize oRow N c q s a = qa at *
          generalize (N.getD s []).getD a 0 = t at *
          have htk : List.take qa.length qa = qa := List.take_of_length_le (Nat.le_refl _)
          have hr1 : ∀ z : Int, (∀ row ∈ [[i64 z]], row.length = 1) = True := fun z => by simp
          have hkl := ixM_len intK (qa.map (cl c)) 0
          rw [List.length_map] at hkl
          have hnum : g a = oNum c (oAdd c qa t) t := by rw [hga, hu, oNum_pre oAdd_has]
          by_cases ht0 : t < 0
          · have e1 : decide (t < 0) = true := by simpa using ht0
            have hd : dead c t = true := by rw [dead, e1, Bool.true_or]
            rw [oNum, if_pos hd] at hnum
            rw [oAdd, if_pos hd] at hst2
            rw [hnum] at hset
            (repeat (first | refine awp_seq ?_ | refine awp_block ?_ | ((first | refine awp_skip ?_ | refine awp_exit ?_ | refine awp_reg ttok ?_ | (refine awp_draw ttok ?dr_calm ?_; (case dr_calm => decide +kernel)) | refine awp_condM ?_); simp (maxSteps := 4000000) only [↓reduceIte, Nat.reduceLT, Nat.reduceEqDiff, reduceCtorEq, Nat.reduceAdd, Nat.reduceMul, Int.reduceLE, Int.reduceLT, Int.reduceToNat, Nat.reduceLeDiff, Nat.reduceSub, Int.reduceEq, Nat.reduceBEq, List.replicate, List.set, evB, tyA, d2, hgt, ints_len, hrl, e1, hfl, hfg, hwa]; (repeat (with_reducible refine And.intro ?_ ?_; exact sdX)); (with_reducible first | refine awp_id ?_ | refine id_call ?_ | refine id_and ?_ | refine id_ex ?_ | refine id_all ?_ | refine id_nat ?_ | refine id_le ?_))))
            refine ⟨a + 1, by omega, by omega, ?_⟩
            refine mkSM_le rfl ?_ ?_ ?_
            · simp (maxSteps := 4000000) only [↓reduceIte, Nat.reduceLT, Nat.reduceEqDiff, reduceCtorEq, Nat.reduceAdd, Nat.reduceMul, Int.reduceLE, Int.reduceLT, Int.reduceToNat, Nat.reduceLeDiff, Nat.reduceSub, Int.reduceEq, Nat.reduceBEq, List.replicate, List.set, evB, hst2]
              try rfl
            · simp (maxSteps := 4000000) only [↓reduceIte, Nat.reduceLT, Nat.reduceEqDiff, reduceCtorEq, Nat.reduceAdd, Nat.reduceMul, Int.reduceLE, Int.reduceLT, Int.reduceToNat, Nat.reduceLeDiff, Nat.reduceSub, Int.reduceEq, Nat.reduceBEq, List.replicate, List.set, evB, hst2, hse, hset]
            · simp (maxSteps := 4000000) only [↓reduceIte, Nat.reduceLT, Nat.reduceEqDiff, reduceCtorEq, Nat.reduceAdd, Nat.reduceMul, Int.reduceLE, Int.reduceLT, Int.reduceToNat, Nat.reduceLeDiff, Nat.reduceSub, Int.reduceEq, Nat.reduceBEq, List.replicate, List.set, evB, hst2]
          · obtain ⟨y, rfl⟩ := Int.eq_ofNat_of_zero_le (Int.not_lt.1 ht0)
            have e1 : decide (((y : Nat) : Int) < 0) = false := by simp
            have hgy := ints_get (l := c) (i := y) (by omega)
            have hcy : cl c ((y : Nat) : Int) = c.getD y 0 := rfl
            by_cases hc0 : c.getD y 0 < 0
            · have e2 : decide (c.getD y 0 < 0) = true := by simpa using hc0
              have hd : dead c ((y : Nat) : Int) = true := by rw [dead, hcy, e2, Bool.or_true]
              rw [oNum, if_pos hd] at hnum
              rw [oAdd, if_pos hd] at hst2
              rw [hnum] at hset
              (repeat (first | refine awp_seq ?_ | refine awp_block ?_ | ((first | refine awp_skip ?_ | refine awp_exit ?_ | refine awp_reg ttok ?_ | (refine awp_draw ttok ?dr_calm ?_; (case dr_calm => decide +kernel)) | refine awp_condM ?_); simp (maxSteps := 4000000) only [↓reduceIte, Nat.reduceLT, Nat.reduceEqDiff, reduceCtorEq, Nat.reduceAdd, Nat.reduceMul, Int.reduceLE, Int.reduceLT, Int.reduceToNat, Nat.reduceLeDiff, Nat.reduceSub, Int.reduceEq, Nat.reduceBEq, List.replicate, List.set, evB, tyA, d2, hgt, ints_len, hrl, e1, hgy, hcl, e2, hfl, hfg, hwa]; (repeat (with_reducible refine And.intro ?_ ?_; exact sdX)); (with_reducible first | refine awp_id ?_ | refine id_call ?_ | refine id_and ?_ | refine id_ex ?_ | refine id_all ?_ | refine id_nat ?_ | refine id_le ?_))))
              refine ⟨a + 1, by omega, by omega, ?_⟩
              refine mkSM_le rfl ?_ ?_ ?_
              · simp (maxSteps := 4000000) only [↓reduceIte, Nat.reduceLT, Nat.reduceEqDiff, reduceCtorEq, Nat.reduceAdd, Nat.reduceMul, Int.reduceLE, Int.reduceLT, Int.reduceToNat, Nat.reduceLeDiff, Nat.reduceSub, Int.reduceEq, Nat.reduceBEq, List.replicate, List.set, evB, hst2]
                try rfl
              · simp (maxSteps := 4000000) only [↓reduceIte, Nat.reduceLT, Nat.reduceEqDiff, reduceCtorEq, Nat.reduceAdd, Nat.reduceMul, Int.reduceLE, Int.reduceLT, Int.reduceToNat, Nat.reduceLeDiff, Nat.reduceSub, Int.reduceEq, Nat.reduceBEq, List.replicate, List.set, evB, hst2, hse, hset]
              · simp (maxSteps := 4000000) only [↓reduceIte, Nat.reduceLT, Nat.reduceEqDiff, reduceCtorEq, Nat.reduceAdd, Nat.reduceMul, Int.reduceLE, Int.reduceLT, Int.reduceToNat, Nat.reduceLeDiff, Nat.reduceSub, Int.reduceEq, Nat.reduceBEq, List.replicate, List.set, evB, hst2]
            · have e2 : decide (c.getD y 0 < 0) = false := by simpa using hc0
              have hd : dead c ((y : Nat) : Int) = false := by rw [dead, hcy, e1, e2]; rfl
              have hmk : ∀ z ∈ qa.map (cl c), keyEq (intK (c.getD y 0)) (intK z) = (z == c.getD y 0) := fun z _ => keyEq_int _ _
              have hget : mget (.int .i64 (c.getD y 0)) (ixM intK (qa.map (cl c)) 0) = _ := mget_ix intK (c.getD y 0) _ 0 hmk
              have hst3 : _ → mset (.int .i64 (c.getD y 0)) _ (ixM intK (qa.map (cl c)) 0) = _ := mset_ix intK (c.getD y 0) _ 0 hmk
              rw [Nat.zero_add] at hget hst3
              rw [List.length_map] at hst3
              rw [oAdd, hd, if_neg (by simp), hcy] at hst2
              rw [oNum, hd, if_neg (by simp), oAdd, hd, if_neg (by simp), hcy] at hnum
              cases hcn : (qa.map (cl c)).contains (c.getD y 0)
              · rw [hcn, if_neg (by simp)] at hget hst2 hnum
                have hst3 := hst3 hcn
                have hix : ((qa ++ [((y : Nat) : Int)]).map (cl c)).idxOf (c.getD y 0) = qa.length := by
                  rw [List.map_append, List.idxOf_append, if_neg (by simpa using hcn)]
                  simp [hcy]
                rw [hix] at hnum
                rw [hnum] at hset
                (repeat (first | refine awp_seq ?_ | refine awp_block ?_ | ((first | refine awp_skip ?_ | refine awp_exit ?_ | refine awp_reg ttok ?_ | (refine awp_draw ttok ?dr_calm ?_; (case dr_calm => decide +kernel)) | refine awp_condM ?_); simp (maxSteps := 4000000) only [↓reduceIte, Nat.reduceLT, Nat.reduceEqDiff, reduceCtorEq, Nat.reduceAdd, Nat.reduceMul, Int.reduceLE, Int.reduceLT, Int.reduceToNat, Nat.reduceLeDiff, Nat.reduceSub, Int.reduceEq, Nat.reduceBEq, List.replicate, List.set, evB, tyA, d2, hgt, ints_len, hrl, e1, hgy, hcl, e2, hmT, hget, hst3, hfl, hfg, hwa, htk, hr1]; (repeat (with_reducible refine And.intro ?_ ?_; exact sdX)); (with_reducible first | refine awp_id ?_ | refine id_call ?_ | refine id_and ?_ | refine id_ex ?_ | refine id_all ?_ | refine id_nat ?_ | refine id_le ?_))))
                refine ⟨a + 1, by omega, by omega, ?_⟩
                refine mkSM_le rfl ?_ ?_ ?_
                · simp (maxSteps := 4000000) only [↓reduceIte, Nat.reduceLT, Nat.reduceEqDiff, reduceCtorEq, Nat.reduceAdd, Nat.reduceMul, Int.reduceLE, Int.reduceLT, Int.reduceToNat, Nat.reduceLeDiff, Nat.reduceSub, Int.reduceEq, Nat.reduceBEq, List.replicate, List.set, evB, hst2, List.length_append]
                  try rfl
                · simp (maxSteps := 4000000) only [↓reduceIte, Nat.reduceLT, Nat.reduceEqDiff, reduceCtorEq, Nat.reduceAdd, Nat.reduceMul, Int.reduceLE, Int.reduceLT, Int.reduceToNat, Nat.reduceLeDiff, Nat.reduceSub, Int.reduceEq, Nat.reduceBEq, List.replicate, List.set, evB, hst2, hse, hset, ints_one, htk]
                · simp (maxSteps := 4000000) only [↓reduceIte, Nat.reduceLT, Nat.reduceEqDiff, reduceCtorEq, Nat.reduceAdd, Nat.reduceMul, Int.reduceLE, Int.reduceLT, Int.reduceToNat, Nat.reduceLeDiff, Nat.reduceSub, Int.reduceEq, Nat.reduceBEq, List.replicate, List.set, evB, hst2, List.map_append, hcy]
              · rw [hcn, if_pos rfl] at hget hst2 hnum
                rw [hnum] at hset
                (repeat (first | refine awp_seq ?_ | refine awp_block ?_ | ((first | refine awp_skip ?_ | refine awp_exit ?_ | refine awp_reg ttok ?_ | (refine awp_draw ttok ?dr_calm ?_; (case dr_calm => decide +kernel)) | refine awp_condM ?_); simp (maxSteps := 4000000) only [↓reduceIte, Nat.reduceLT, Nat.reduceEqDiff, reduceCtorEq, Nat.reduceAdd, Nat.reduceMul, Int.reduceLE, Int.reduceLT, Int.reduceToNat, Nat.reduceLeDiff, Nat.reduceSub, Int.reduceEq, Nat.reduceBEq, List.replicate, List.set, evB, tyA, d2, hgt, ints_len, hrl, e1, hgy, hcl, e2, hmT, hget, hfl, hfg, hwa]; (repeat (with_reducible refine And.intro ?_ ?_; exact sdX)); (with_reducible first | refine awp_id ?_ | refine id_call ?_ | refine id_and ?_ | refine id_ex ?_ | refine id_all ?_ | refine id_nat ?_ | refine id_le ?_))))
                refine ⟨a + 1, by omega, by omega, ?_⟩
                refine mkSM_le rfl ?_ ?_ ?_
                · simp (maxSteps := 4000000) only [↓reduceIte, Nat.reduceLT, Nat.reduceEqDiff, reduceCtorEq, Nat.reduceAdd, Nat.reduceMul, Int.reduceLE, Int.reduceLT, Int.reduceToNat, Nat.reduceLeDiff, Nat.reduceSub, Int.reduceEq, Nat.reduceBEq, List.replicate, List.set, evB, hst2]
                  try rfl
                · simp (maxSteps := 4000000) only [↓reduceIte, Nat.reduceLT, Nat.reduceEqDiff, reduceCtorEq, Nat.reduceAdd, Nat.reduceMul, Int.reduceLE, Int.reduceLT, Int.reduceToNat, Nat.reduceLeDiff, Nat.reduceSub, Int.reduceEq, Nat.reduceBEq, List.replicate, List.set, evB, hst2, hse, hset]
                · simp (maxSteps := 4000000) only [↓reduceIte, Nat.reduceLT, Nat.reduceEqDiff, reduceCtorEq, Nat.reduceAdd, Nat.reduceMul, Int.reduceLE, Int.reduceLT, Int.reduceToNat, Nat.reduceLeDiff, Nat.reduceSub, Int.reduceEq, Nat.reduceBEq, List.replicate, List.set, evB, hst2]
        · have d2 : decide ((a : Int) < (L : Int)) = false := by simpa using halt
          obtain rfl : a = L := by omega
          have hfl := fillP_len g a a
          have hrw : fillP g a a = (N.getD s []).map (oNum c Q) := by
            rw [fillP_all, hg, ← hrow.1]; exact map_range_getD _ _ _
          have hQl : (oNx N c Q).length = Q.length := by simp [oNx]
          have hQf : (oFin F Q).length = Q.length := by simp [oFin]
          obtain ⟨v, hv⟩ := hQi
          have hiQ : i < Q.length := by rw [hv, List.length_append]; omega
          have hQs : Q.getD i 0 = (s : Int) := by rw [hv, getD_app_lt hlt]; exact hs
          have hNs : (oNx N c Q).take (i + 1) = (oNx N c Q).take i ++ [(N.getD s []).map (oNum c Q)] := by
            rw [take_snoc (by omega) []]
            congr 2
            simp only [oNx, List.getD, List.getElem?_map] at hQs ⊢
            rw [List.getElem?_eq_getElem hiQ] at hQs ⊢
            simp only [Option.getD_some, Option.map_some] at hQs ⊢
            rw [hQs]; rfl
          have hFs : (oFin F Q).take (i + 1) = (oFin F Q).take i ++ [F.getD s false] := by
            rw [take_snoc (by omega) false]
            congr 2
            simp only [oFin, List.getD, List.getElem?_map] at hQs ⊢
            rw [List.getElem?_eq_getElem hiQ] at hQs ⊢
            simp only [Option.getD_some, Option.map_some] at hQs ⊢
            rw [hQs]; rfl
          have hNt : ((oNx N c Q).take i).length = i := by rw [List.length_take]; omega
          have hFt : ((oFin F Q).take i).length = i := by rw [List.length_take]; omega
          have hgs := bos_get (l := F) (i := s) (by omega)
          have hgq2 : (ints (oRow N c q s a)).getD i [] = [i64 s] := by
            obtain ⟨w, hw⟩ := hpre a
            rw [hw, ← ints_app, getD_app_lt (by rw [ints_len]; omega)]; exact hgq
          have hlq : i < (oRow N c q s a).length := by
            obtain ⟨w, hw⟩ := hpre a
            rw [hw, List.length_append]; omega
          have hil := hlen (i + 1)
          rw [hnx] at hil
          have hwi : IntKind.i64.wrap ((i : Int) + 1) = ((i + 1 : Nat) : Int) := i64_in (by omega) (by omega)
          rw [hrw] at hfl ⊢
          have hft : List.take a ((N.getD s []).map (oNum c Q)) = (N.getD s []).map (oNum c Q) := List.take_of_length_le (by omega)
          have hr2 : ∀ z : List Int, (∀ row ∈ [[D.sl false (ints z)]], row.length = 1) = True := fun z => by simp
          have hr3 : ∀ z : Bool, (∀ row ∈ [[bo z]], row.length = 1) = True := fun z => by simp
          refine awp_pure 9 (d := .own 13002 0 a) evX (by simp (maxSteps := 4000000) only [↓reduceIte, Nat.reduceLT, Nat.reduceEqDiff, reduceCtorEq, Nat.reduceAdd, Nat.reduceMul, Int.reduceLE, Int.reduceLT, Int.reduceToNat, Nat.reduceLeDiff, Nat.reduceSub, Int.reduceEq, Nat.reduceBEq, List.replicate, List.set, evB]; rfl) (by first | simp (maxSteps := 4000000) only [↓reduceIte, Nat.reduceLT, Nat.reduceEqDiff, reduceCtorEq, Nat.reduceAdd, Nat.reduceMul, Int.reduceLE, Int.reduceLT, Int.reduceToNat, Nat.reduceLeDiff, Nat.reduceSub, Int.reduceEq, Nat.reduceBEq, List.replicate, List.set, evB, hrow.1] | (simp [hrow.1]; done)) ?_
          (repeat (first | refine awp_seq ?_ | refine awp_block ?_ | ((first | refine awp_skip ?_ | refine awp_exit ?_ | refine awp_reg ttok ?_ | (refine awp_draw ttok ?dr_calm ?_; (case dr_calm => decide +kernel)) | refine awp_condM ?_); simp (maxSteps := 4000000) only [↓reduceIte, Nat.reduceLT, Nat.reduceEqDiff, reduceCtorEq, Nat.reduceAdd, Nat.reduceMul, Int.reduceLE, Int.reduceLT, Int.reduceToNat, Nat.reduceLeDiff, Nat.reduceSub, Int.reduceEq, Nat.reduceBEq, List.replicate, List.set, evB, tyA, d2, ints_take, hft, iis_len, iis_take, iis_row, hNt, hr2]; (repeat (with_reducible refine And.intro ?_ ?_; exact sdX)); (with_reducible first | refine awp_id ?_ | refine id_call ?_ | refine id_and ?_ | refine id_ex ?_ | refine id_all ?_ | refine id_nat ?_ | refine id_le ?_))))
          refine awp_drawG ttok ((0, none) :: (1, none) :: (2, none) :: (3, none) :: (4, none) :: (5, none) :: (6, none) :: (7, none) :: (8, none) :: (9, none) :: (10, some [0, 1]) :: (11, some []) :: (12, none) :: (13, some []) :: []) ([]) ([]) (by decide +kernel) fun O hO => ?_; simp only [OpsAre, Nat.reduceAdd, and_true, List.toList_toArray, List.append_eq, List.cons_append, List.nil_append] at hO; simp (maxSteps := 4000000) only [↓reduceIte, Nat.reduceLT, Nat.reduceEqDiff, reduceCtorEq, Nat.reduceAdd, Nat.reduceMul, Int.reduceLE, Int.reduceLT, Int.reduceToNat, Nat.reduceLeDiff, Nat.reduceSub, Int.reduceEq, Nat.reduceBEq, List.replicate, List.set, evB, tyA, hO, hgq2, ints_len, bos_len, hgs, hF, bos_take, hFt, hr3]; (repeat (with_reducible refine And.intro ?_ ?_; exact sdX))
          (repeat (first | refine awp_seq ?_ | refine awp_block ?_ | ((first | refine awp_skip ?_ | refine awp_exit ?_ | refine awp_reg ttok ?_ | (refine awp_draw ttok ?dr_calm ?_; (case dr_calm => decide +kernel)) | refine awp_condM ?_); simp (maxSteps := 4000000) only [↓reduceIte, Nat.reduceLT, Nat.reduceEqDiff, reduceCtorEq, Nat.reduceAdd, Nat.reduceMul, Int.reduceLE, Int.reduceLT, Int.reduceToNat, Nat.reduceLeDiff, Nat.reduceSub, Int.reduceEq, Nat.reduceBEq, List.replicate, List.set, evB, tyA, hwi]; (repeat (with_reducible refine And.intro ?_ ?_; exact sdX)); (with_reducible first | refine awp_id ?_ | refine id_call ?_ | refine id_and ?_ | refine id_ex ?_ | refine id_all ?_ | refine id_nat ?_ | refine id_le ?_))))
          refine ⟨i + 1, by rw [hnx]; omega, by omega, ?_⟩
          refine mkSM_le rfl ?_ ?_ ?_
          · simp (maxSteps := 4000000) only [↓reduceIte, Nat.reduceLT, Nat.reduceEqDiff, reduceCtorEq, Nat.reduceAdd, Nat.reduceMul, Int.reduceLE, Int.reduceLT, Int.reduceToNat, Nat.reduceLeDiff, Nat.reduceSub, Int.reduceEq, Nat.reduceBEq, List.replicate, List.set, evB, hnx]
          · simp (maxSteps := 4000000) only [↓reduceIte, Nat.reduceLT, Nat.reduceEqDiff, reduceCtorEq, Nat.reduceAdd, Nat.reduceMul, Int.reduceLE, Int.reduceLT, Int.reduceToNat, Nat.reduceLeDiff, Nat.reduceSub, Int.reduceEq, Nat.reduceBEq, List.replicate, List.set, evB, hnx, bos_take, bos_app, bos_one, hFs, iis_take, iis_app, iis_one, hNs, hFt, hNt]
          · simp (maxSteps := 4000000) only [↓reduceIte, Nat.reduceLT, Nat.reduceEqDiff, reduceCtorEq, Nat.reduceAdd, Nat.reduceMul, Int.reduceLE, Int.reduceLT, Int.reduceToNat, Nat.reduceLeDiff, Nat.reduceSub, Int.reduceEq, Nat.reduceBEq, List.replicate, List.set, evB, hnx]
    · have d1 : decide ((i : Int) < ((oQ N c st i).length : Int)) = false := by simpa using hlt
      have hik := hlen i
      have hQe := hstop i (by omega) hlt
      rw [hQe] at hi hlt d1 hik ⊢
      have hei : i = Q.length := by omega
      have hQl : (oNx N c Q).length = Q.length := by simp [oNx]
      have hQf : (oFin F Q).length = Q.length := by simp [oFin]
      have hNt : (oNx N c Q).take i = oNx N c Q := List.take_of_length_le (by omega)
      have hFt : (oFin F Q).take i = oFin F Q := List.take_of_length_le (by omega)
      rw [hNt, hFt]
      rw [← hei] at hQl hQf
      refine awp_pureO 9003 (by simp (maxSteps := 4000000) only [↓reduceIte, Nat.reduceLT, Nat.reduceEqDiff, reduceCtorEq, Nat.reduceAdd, Nat.reduceMul, Int.reduceLE, Int.reduceLT, Int.reduceToNat, Nat.reduceLeDiff, Nat.reduceSub, Int.reduceEq, Nat.reduceBEq, List.replicate, List.set, evB]; rfl) rfl (by simp (maxSteps := 4000000) only [↓reduceIte, Nat.reduceLT, Nat.reduceEqDiff, reduceCtorEq, Nat.reduceAdd, Nat.reduceMul, Int.reduceLE, Int.reduceLT, Int.reduceToNat, Nat.reduceLeDiff, Nat.reduceSub, Int.reduceEq, Nat.reduceBEq, List.replicate, List.set, evB, bos_len, bos_take, iis_len, iis_take, hFt, hNt, hQl, hQf]; rfl) (by simp (maxSteps := 4000000) only [↓reduceIte, Nat.reduceLT, Nat.reduceEqDiff, reduceCtorEq, Nat.reduceAdd, Nat.reduceMul, Int.reduceLE, Int.reduceLT, Int.reduceToNat, Nat.reduceLeDiff, Nat.reduceSub, Int.reduceEq, Nat.reduceBEq, List.replicate, List.set, evB, bos_len, iis_len, hQl, hQf]) (by decide) ?_
      (repeat (first | refine awp_seq ?_ | refine awp_block ?_ | ((first | refine awp_skip ?_ | refine awp_exit ?_ | refine awp_reg ttok ?_ | (refine awp_draw ttok ?dr_calm ?_; (case dr_calm => decide +kernel)) | refine awp_condM ?_); simp (maxSteps := 4000000) only [↓reduceIte, Nat.reduceLT, Nat.reduceEqDiff, reduceCtorEq, Nat.reduceAdd, Nat.reduceMul, Int.reduceLE, Int.reduceLT, Int.reduceToNat, Nat.reduceLeDiff, Nat.reduceSub, Int.reduceEq, Nat.reduceBEq, List.replicate, List.set, evB, tyA, d1]; (repeat (with_reducible refine And.intro ?_ ?_; exact sdX)); (with_reducible first | refine awp_id ?_ | refine id_call ?_ | refine id_and ?_ | refine id_ex ?_ | refine id_all ?_ | refine id_nat ?_ | refine id_le ?_))))
      exact awp_ret (endsV [] (.inr rfl) (by simp (maxSteps := 4000000) only [↓reduceIte, Nat.reduceLT, Nat.reduceEqDiff, reduceCtorEq, Nat.reduceAdd, Nat.reduceMul, Int.reduceLE, Int.reduceLT, Int.reduceToNat, Nat.reduceLeDiff, Nat.reduceSub, Int.reduceEq, Nat.reduceBEq, List.replicate, List.set, evB, tyA]; rfl) trivial evX)
theorem toD_bad {L k : Nat} {N : List (List Int)} (h : NOk L k N) {s c : Int} (hs : 0 ≤ s) (hb : c < 0 ∨ (L : Int) ≤ c ∨ (k : Int) ≤ s) : toD N s c = -1 := by
  unfold toD
  split
  · rfl
  · rename_i hn
    have hl := h.len
    have := (h.get (s := s.toNat) (by omega)).1
    omega
theorem toD_bad1 (N : List (List Int)) (s c : Int) (h : s < 0 ∨ (N.length : Int) ≤ s ∨ c < 0) : toD N s c = -1 := by
  unfold toD
  rw [if_pos]
  rcases h with h | h | h
  · exact .inl h
  · exact .inr (.inl h)
  · exact .inr (.inr (.inl h))
theorem toD_good {L k : Nat} {N : List (List Int)} (h : NOk L k N) {s c : Nat} (hs : s < k) (hc : c < L) : toD N s c = (N.getD s []).getD c 0 := by
  have hl := h.len
  have := (h.get hs).1
  unfold toD
  rw [if_neg (by rw [Int.toNat_natCast]; omega), Int.toNat_natCast, Int.toNat_natCast]
set_option maxRecDepth 20000 in
set_option maxHeartbeats 16000000 in
theorem c_To {L k : Nat} {N : List (List Int)} (h : NOk L k N) (st : Nat) (F : List Bool) (s c : Int) :
    Contract Try.prog 62 [dfaD L st F N, i64 s, i64 c] (i64 (toD N s c)) [] := by
  refine contract_of_awp (rs := [6]) Try.func62 rfl Try.ntmps62 (by simp) rfl fun E => ?_
  have hl := h.len
  by_cases b1 : s < 0
  · have e1 : decide (s < 0) = true := by simpa using b1
    have hr := toD_bad1 N s c (.inl b1)
    (repeat (first | refine awp_seq ?_ | refine awp_block ?_ | ((first | refine awp_skip ?_ | refine awp_exit ?_ | refine awp_reg ttok ?_ | (refine awp_draw ttok ?dr_calm ?_; (case dr_calm => decide +kernel)) | refine awp_condM ?_); simp (maxSteps := 4000000) only [↓reduceIte, Nat.reduceLT, Nat.reduceEqDiff, reduceCtorEq, Nat.reduceAdd, Nat.reduceMul, Int.reduceLE, Int.reduceLT, Int.reduceToNat, Nat.reduceLeDiff, Nat.reduceSub, Int.reduceEq, Nat.reduceBEq, List.replicate, List.set, evB, tyA, dfaD, e1]; (repeat (with_reducible refine And.intro ?_ ?_; exact sdX)); (with_reducible first | refine awp_id ?_ | refine id_call ?_ | refine id_and ?_ | refine id_ex ?_ | refine id_all ?_ | refine id_nat ?_ | refine id_le ?_))))
    exact awp_ret (ends_plain (.inr rfl) rfl (by simp (maxSteps := 4000000) only [↓reduceIte, Nat.reduceLT, Nat.reduceEqDiff, reduceCtorEq, Nat.reduceAdd, Nat.reduceMul, Int.reduceLE, Int.reduceLT, Int.reduceToNat, Nat.reduceLeDiff, Nat.reduceSub, Int.reduceEq, Nat.reduceBEq, List.replicate, List.set, evB, hr]))
  · have e1 : decide (s < 0) = false := by simpa using b1
    obtain ⟨z, rfl⟩ := Int.eq_ofNat_of_zero_le (show 0 ≤ s by omega)
    by_cases b2 : (k : Int) ≤ (z : Int)
    · have e2 : decide ((k : Int) ≤ (z : Int)) = true := by simpa using b2
      have hr := toD_bad1 N z c (.inr (.inl (by omega)))
      (repeat (first | refine awp_seq ?_ | refine awp_block ?_ | ((first | refine awp_skip ?_ | refine awp_exit ?_ | refine awp_reg ttok ?_ | (refine awp_draw ttok ?dr_calm ?_; (case dr_calm => decide +kernel)) | refine awp_condM ?_); simp (maxSteps := 4000000) only [↓reduceIte, Nat.reduceLT, Nat.reduceEqDiff, reduceCtorEq, Nat.reduceAdd, Nat.reduceMul, Int.reduceLE, Int.reduceLT, Int.reduceToNat, Nat.reduceLeDiff, Nat.reduceSub, Int.reduceEq, Nat.reduceBEq, List.replicate, List.set, evB, tyA, dfaD, e1, iis_len, hl, e2]; (repeat (with_reducible refine And.intro ?_ ?_; exact sdX)); (with_reducible first | refine awp_id ?_ | refine id_call ?_ | refine id_and ?_ | refine id_ex ?_ | refine id_all ?_ | refine id_nat ?_ | refine id_le ?_))))
      exact awp_ret (ends_plain (.inr rfl) rfl (by simp (maxSteps := 4000000) only [↓reduceIte, Nat.reduceLT, Nat.reduceEqDiff, reduceCtorEq, Nat.reduceAdd, Nat.reduceMul, Int.reduceLE, Int.reduceLT, Int.reduceToNat, Nat.reduceLeDiff, Nat.reduceSub, Int.reduceEq, Nat.reduceBEq, List.replicate, List.set, evB, hr]))
    · have e2 : decide ((k : Int) ≤ (z : Int)) = false := by simpa using b2
      by_cases b3 : c < 0
      · have e3 : decide (c < 0) = true := by simpa using b3
        have hr := toD_bad1 N z c (.inr (.inr b3))
        (repeat (first | refine awp_seq ?_ | refine awp_block ?_ | ((first | refine awp_skip ?_ | refine awp_exit ?_ | refine awp_reg ttok ?_ | (refine awp_draw ttok ?dr_calm ?_; (case dr_calm => decide +kernel)) | refine awp_condM ?_); simp (maxSteps := 4000000) only [↓reduceIte, Nat.reduceLT, Nat.reduceEqDiff, reduceCtorEq, Nat.reduceAdd, Nat.reduceMul, Int.reduceLE, Int.reduceLT, Int.reduceToNat, Nat.reduceLeDiff, Nat.reduceSub, Int.reduceEq, Nat.reduceBEq, List.replicate, List.set, evB, tyA, dfaD, e1, iis_len, hl, e2, e3]; (repeat (with_reducible refine And.intro ?_ ?_; exact sdX)); (with_reducible first | refine awp_id ?_ | refine id_call ?_ | refine id_and ?_ | refine id_ex ?_ | refine id_all ?_ | refine id_nat ?_ | refine id_le ?_))))
        exact awp_ret (ends_plain (.inr rfl) rfl (by simp (maxSteps := 4000000) only [↓reduceIte, Nat.reduceLT, Nat.reduceEqDiff, reduceCtorEq, Nat.reduceAdd, Nat.reduceMul, Int.reduceLE, Int.reduceLT, Int.reduceToNat, Nat.reduceLeDiff, Nat.reduceSub, Int.reduceEq, Nat.reduceBEq, List.replicate, List.set, evB, hr]))
      · have e3 : decide (c < 0) = false := by simpa using b3
        obtain ⟨y, rfl⟩ := Int.eq_ofNat_of_zero_le (show 0 ≤ c by omega)
        have hrl := (h.get (show z < k by omega)).1
        have hgi := iis_get (l := N) (i := z) (by omega)
        by_cases b4 : (L : Int) ≤ (y : Int)
        · have e4 : decide ((L : Int) ≤ (y : Int)) = true := by simpa using b4
          have hr := toD_bad h (s := z) (c := y) (by omega) (.inr (.inl (by omega)))
          (repeat (first | refine awp_seq ?_ | refine awp_block ?_ | ((first | refine awp_skip ?_ | refine awp_exit ?_ | refine awp_reg ttok ?_ | (refine awp_draw ttok ?dr_calm ?_; (case dr_calm => decide +kernel)) | refine awp_condM ?_); simp (maxSteps := 4000000) only [↓reduceIte, Nat.reduceLT, Nat.reduceEqDiff, reduceCtorEq, Nat.reduceAdd, Nat.reduceMul, Int.reduceLE, Int.reduceLT, Int.reduceToNat, Nat.reduceLeDiff, Nat.reduceSub, Int.reduceEq, Nat.reduceBEq, List.replicate, List.set, evB, tyA, dfaD, e1, iis_len, hl, e2, e3, hgi, ints_len, hrl, e4]; (repeat (with_reducible refine And.intro ?_ ?_; exact sdX)); (with_reducible first | refine awp_id ?_ | refine id_call ?_ | refine id_and ?_ | refine id_ex ?_ | refine id_all ?_ | refine id_nat ?_ | refine id_le ?_))))
          exact awp_ret (ends_plain (.inr rfl) rfl (by simp (maxSteps := 4000000) only [↓reduceIte, Nat.reduceLT, Nat.reduceEqDiff, reduceCtorEq, Nat.reduceAdd, Nat.reduceMul, Int.reduceLE, Int.reduceLT, Int.reduceToNat, Nat.reduceLeDiff, Nat.reduceSub, Int.reduceEq, Nat.reduceBEq, List.replicate, List.set, evB, hr]))
        · have e4 : decide ((L : Int) ≤ (y : Int)) = false := by simpa using b4
          have hr := toD_good h (s := z) (c := y) (by omega) (by omega)
          have hgc := ints_get (l := N.getD z []) (i := y) (by omega)
          (repeat (first | refine awp_seq ?_ | refine awp_block ?_ | ((first | refine awp_skip ?_ | refine awp_exit ?_ | refine awp_reg ttok ?_ | (refine awp_draw ttok ?dr_calm ?_; (case dr_calm => decide +kernel)) | refine awp_condM ?_); simp (maxSteps := 4000000) only [↓reduceIte, Nat.reduceLT, Nat.reduceEqDiff, reduceCtorEq, Nat.reduceAdd, Nat.reduceMul, Int.reduceLE, Int.reduceLT, Int.reduceToNat, Nat.reduceLeDiff, Nat.reduceSub, Int.reduceEq, Nat.reduceBEq, List.replicate, List.set, evB, tyA, dfaD, e1, iis_len, hl, e2, e3, hgi, ints_len, hrl, e4, hgc]; (repeat (with_reducible refine And.intro ?_ ?_; exact sdX)); (with_reducible first | refine awp_id ?_ | refine id_call ?_ | refine id_and ?_ | refine id_ex ?_ | refine id_all ?_ | refine id_nat ?_ | refine id_le ?_))))
          exact awp_ret (ends_plain (.inr rfl) rfl (by simp (maxSteps := 4000000) only [↓reduceIte, Nat.reduceLT, Nat.reduceEqDiff, reduceCtorEq, Nat.reduceAdd, Nat.reduceMul, Int.reduceLE, Int.reduceLT, Int.reduceToNat, Nat.reduceLeDiff, Nat.reduceSub, Int.reduceEq, Nat.reduceBEq, List.replicate, List.set, evB, hr]))
def noDfa : D := .agg [i64 0, i64 0, .sl true [], .sl true []]
def ofR (L st : Nat) (F : List Bool) (N : List (List Int)) : D := if 0 ≤ (clsF F N).getD st 0 then .tup [dfaD L 0 (oFin F (oAll N (clsF F N) st)) (oNx N (clsF F N) (oAll N (clsF F N) st)), i64 0] else .tup [noDfa, i64 13]
theorem c_MOfR {L k : Nat} {N : List (List Int)} (h : NOk L k N) (st : Nat) (hst : st < k) (F : List Bool) (hF : F.length = k) (hL : L ≤ 100000) (hk : 1 ≤ k ∧ k ≤ 2000) : Contract Try.prog 43 [dfaD L st F N] (ofR L st F N) [] := by
  unfold ofR
  split
  · rename_i h0; exact c_MOf h st hst F hF hL hk h0
  · rename_i h0; exact c_MOfNo h st hst F hF hL hk (by omega)
theorem ofR_says {L k : Nat} {N : List (List Int)} (h : NOk L k N) {s : Nat} (hs : s < k) (F : List Bool) (hF : F.length = k) (hk : k ≤ 2000) :
    ((liveL F N).getD s false = true ∧ ∃ (j : Nat) (H : List Bool) (Y : List (List Int)), 1 ≤ j ∧ j ≤ k ∧ NOk L j Y ∧ H.length = j ∧ ofR L s F N = .tup [dfaD L 0 H Y, i64 0] ∧ ∀ w, endsD H Y ((0 : Nat) : Int) w = endsD F N s w) ∨
    ((liveL F N).getD s false = false ∧ ofR L s F N = .tup [noDfa, i64 13] ∧ ∀ w, endsD F N s w = false) := by
  unfold ofR
  have hlv := clsF_live h hF hs
  by_cases h0 : 0 ≤ (clsF F N).getD s 0
  · left
    refine ⟨hlv.2 h0, ?_⟩
    rw [if_pos h0]
    have hO := OA.mk (Q := oAll N (clsF F N) s) h hF hs h0 rfl
    generalize oAll N (clsF F N) s = R at *
    obtain ⟨r0, r1⟩ := hO.q0
    have hR := hO.lenQ
    exact ⟨R.length, oFin F R, oNx N (clsF F N) R, r0, hR, hO.ok2, hO.hF2, rfl, fun w => hO.lang w 0 s r0 r1⟩
  · right
    have hd : (liveL F N).getD s false = false := by
      cases hx : (liveL F N).getD s false
      · rfl
      · exact absurd (hlv.1 hx) h0
    exact ⟨hd, by rw [if_neg h0], fun w => dead_word h hF hs hd w⟩
theorem idx_same : ∀ {a b : List Int} {x y : Int}, a.length = b.length → (∀ j, j < a.length → (a.getD j 0 = x ↔ b.getD j 0 = y)) → a.contains x = b.contains y ∧ a.idxOf x = b.idxOf y
  | [], [], x, y, _, _ => by simp
  | [], _ :: _, _, _, h, _ => by simp at h
  | _ :: _, [], _, _, h, _ => by simp at h
  | u :: a, v :: b, x, y, h, hj => by
    have h0 : u = x ↔ v = y := by have := hj 0 (by simp); simpa using this
    obtain ⟨h1, h2⟩ := idx_same (a := a) (b := b) (x := x) (y := y) (by simpa using h) fun j hl => by have := hj (j + 1) (by simpa using hl); simpa using this
    by_cases e : u = x
    · have e2 := h0.1 e
      subst e e2
      simp
    · have e2 : v ≠ y := fun q => e (h0.2 q)
      constructor
      · rw [List.contains_cons, List.contains_cons, h1, beq_eq_false_iff_ne.2 (Ne.symm e), beq_eq_false_iff_ne.2 (Ne.symm e2)]
      · rw [List.idxOf_cons, List.idxOf_cons, h2, beq_eq_false_iff_ne.2 e, beq_eq_false_iff_ne.2 e2]
section
variable {L k1 k2 : Nat} {N1 N2 : List (List Int)} {F1 F2 : List Bool}
def SameL (F1 : List Bool) (N1 : List (List Int)) (F2 : List Bool) (N2 : List (List Int)) (s t : Int) : Prop := ∀ w, endsD F1 N1 s w = endsD F2 N2 t w
structure Two (L k1 k2 : Nat) (F1 : List Bool) (N1 : List (List Int)) (F2 : List Bool) (N2 : List (List Int)) : Prop where
  h1 : NOk L k1 N1
  h2 : NOk L k2 N2
  f1 : F1.length = k1
  f2 : F2.length = k2
theorem dead_ends {k : Nat} {N : List (List Int)} {F : List Bool} (h : NOk L k N) (hF : F.length = k) {t : Int} (ht : t < (k : Int)) : dead (clsF F N) t = false ↔ ∃ w, endsD F N t w = true := by
  rw [dead_iff]
  constructor
  · rintro ⟨h0, h1⟩
    obtain ⟨s, rfl⟩ := Int.eq_ofNat_of_zero_le h0
    have hs : s < k := by omega
    exact (live_word h hF hs).1 ((clsF_live h hF hs).2 (by simpa [cl] using h1))
  · rintro ⟨w, hw⟩
    have h0 : 0 ≤ t := by
      rcases Int.lt_or_le t 0 with q | q
      · rw [ends_neg q] at hw; cases hw
      · exact q
    obtain ⟨s, rfl⟩ := Int.eq_ofNat_of_zero_le h0
    have hs : s < k := by omega
    refine ⟨h0, ?_⟩
    have := (clsF_live h hF hs).1 ((live_word h hF hs).2 ⟨w, hw⟩)
    simpa [cl] using this
theorem cl_same {k : Nat} {N : List (List Int)} {F : List Bool} (h : NOk L k N) (hF : F.length = k) {s t : Nat} (hs : s < k) (ht : t < k) (ls : (liveL F N).getD s false = true) (lt : (liveL F N).getD t false = true) : cl (clsF F N) s = cl (clsF F N) t ↔ ∀ w, endsD F N s w = endsD F N t w := by
  have e : ∀ x : Nat, cl (clsF F N) (x : Int) = (clsF F N).getD x 0 := fun x => by simp [cl]
  rw [e, e]
  constructor
  · exact fun q w => lang_of_cls h hF w s t hs ht ls lt q
  · exact fun q => cls_of_lang h hF _ s t hs ht ls lt q
def Side (k1 k2 : Nat) (F1 : List Bool) (N1 : List (List Int)) (F2 : List Bool) (N2 : List (List Int)) (q1 q2 : List Int) : Prop :=
  q1.length = q2.length ∧ ∀ j, j < q1.length → ∃ a b : Nat, q1.getD j 0 = (a : Int) ∧ q2.getD j 0 = (b : Int) ∧ a < k1 ∧ b < k2 ∧ (liveL F1 N1).getD a false = true ∧ (liveL F2 N2).getD b false = true ∧ SameL F1 N1 F2 N2 a b
theorem live_of {k : Nat} {N : List (List Int)} {F : List Bool} (h : NOk L k N) (hF : F.length = k) {t : Int} (ht : t < (k : Int)) (hd : dead (clsF F N) t = false) : ∃ s : Nat, t = (s : Int) ∧ s < k ∧ (liveL F N).getD s false = true := by
  obtain ⟨h0, h1⟩ := dead_iff.1 hd
  obtain ⟨s, rfl⟩ := Int.eq_ofNat_of_zero_le h0
  have hs : s < k := by omega
  exact ⟨s, rfl, hs, (clsF_live h hF hs).2 (by simpa [cl] using h1)⟩
theorem dead_two (T : Two L k1 k2 F1 N1 F2 N2) {t1 t2 : Int} (b1 : t1 < (k1 : Int)) (b2 : t2 < (k2 : Int)) (hs : SameL F1 N1 F2 N2 t1 t2) : dead (clsF F1 N1) t1 = dead (clsF F2 N2) t2 := by
  have e1 := dead_ends T.h1 T.f1 b1
  have e2 := dead_ends T.h2 T.f2 b2
  have e3 : (∃ w, endsD F1 N1 t1 w = true) ↔ ∃ w, endsD F2 N2 t2 w = true := by
    constructor
    · rintro ⟨w, hw⟩; exact ⟨w, by rw [← hs]; exact hw⟩
    · rintro ⟨w, hw⟩; exact ⟨w, by rw [hs]; exact hw⟩
  cases x : dead (clsF F1 N1) t1 <;> cases y : dead (clsF F2 N2) t2
  · rfl
  · have := e2.2 (e3.1 (e1.1 x)); rw [y] at this; cases this
  · have := e1.2 (e3.2 (e2.1 y)); rw [x] at this; cases this
  · rfl
theorem Side.idx (T : Two L k1 k2 F1 N1 F2 N2) {q1 q2 : List Int} (hq : Side k1 k2 F1 N1 F2 N2 q1 q2) {t1 t2 : Int} (b1 : t1 < (k1 : Int)) (b2 : t2 < (k2 : Int)) (hs : SameL F1 N1 F2 N2 t1 t2) (hd : dead (clsF F1 N1) t1 = false) :
    (q1.map (cl (clsF F1 N1))).contains (cl (clsF F1 N1) t1) = (q2.map (cl (clsF F2 N2))).contains (cl (clsF F2 N2) t2) ∧ (q1.map (cl (clsF F1 N1))).idxOf (cl (clsF F1 N1) t1) = (q2.map (cl (clsF F2 N2))).idxOf (cl (clsF F2 N2) t2) := by
  have hd2 := hd
  rw [dead_two T b1 b2 hs] at hd2
  obtain ⟨s1, rfl, g1, l1⟩ := live_of T.h1 T.f1 b1 hd
  obtain ⟨s2, rfl, g2, l2⟩ := live_of T.h2 T.f2 b2 hd2
  refine idx_same (by simpa using hq.1) fun j hj => ?_
  rw [List.length_map] at hj
  obtain ⟨a, b, e1, e2, ha, hb, la, lb, hab⟩ := hq.2 j hj
  rw [getD_mapI _ _ hj, getD_mapI _ _ (by rw [← hq.1]; exact hj), e1, e2, cl_same T.h1 T.f1 ha g1 la l1, cl_same T.h2 T.f2 hb g2 lb l2]
  constructor
  · exact fun h w => by rw [← hab, h, hs]
  · exact fun h w => by rw [hab, h, hs]
theorem Side.add (T : Two L k1 k2 F1 N1 F2 N2) {q1 q2 : List Int} (hq : Side k1 k2 F1 N1 F2 N2 q1 q2) {t1 t2 : Int} (b1 : t1 < (k1 : Int)) (b2 : t2 < (k2 : Int)) (hs : SameL F1 N1 F2 N2 t1 t2) : Side k1 k2 F1 N1 F2 N2 (oAdd (clsF F1 N1) q1 t1) (oAdd (clsF F2 N2) q2 t2) := by
  have hdd := dead_two T b1 b2 hs
  unfold oAdd
  cases hd : dead (clsF F1 N1) t1
  · have hi := (hq.idx T b1 b2 hs hd).1
    rw [hd] at hdd
    rw [← hdd, ← hi]
    simp only [Bool.false_eq_true, if_false]
    split
    · exact hq
    · obtain ⟨s1, rfl, g1, l1⟩ := live_of T.h1 T.f1 b1 hd
      obtain ⟨s2, rfl, g2, l2⟩ := live_of T.h2 T.f2 b2 hdd.symm
      refine ⟨by simp [hq.1], fun j hj => ?_⟩
      rcases Nat.lt_or_ge j q1.length with g | g
      · obtain ⟨a, b, e1, e2, r⟩ := hq.2 j g
        exact ⟨a, b, by rw [getD_app_lt g]; exact e1, by rw [getD_app_lt (by rw [← hq.1]; exact g)]; exact e2, r⟩
      · have hj' : j = q1.length := by simp at hj; omega
        refine ⟨s1, s2, by rw [hj', getD_app_at], by rw [hj', hq.1, getD_app_at], g1, g2, l1, l2, hs⟩
  · rw [hd] at hdd
    rw [← hdd, if_pos rfl, if_pos rfl]
    exact hq
theorem cell_same (T : Two L k1 k2 F1 N1 F2 N2) {a b : Nat} (ha : a < k1) (hb : b < k2) (hs : SameL F1 N1 F2 N2 a b) {x : Nat} (hx : x < L) : SameL F1 N1 F2 N2 ((N1.getD a []).getD x 0) ((N2.getD b []).getD x 0) := fun w => by
  have e1 := toD_good T.h1 ha hx
  have e2 := toD_good T.h2 hb hx
  rw [← e1, ← e2, ← ends_cons, ← ends_cons]
  exact hs _
theorem Side.row (T : Two L k1 k2 F1 N1 F2 N2) {a b : Nat} (ha : a < k1) (hb : b < k2) (hs : SameL F1 N1 F2 N2 a b) {q1 q2 : List Int} (hq : Side k1 k2 F1 N1 F2 N2 q1 q2) : ∀ x, x ≤ L → Side k1 k2 F1 N1 F2 N2 (oRow N1 (clsF F1 N1) q1 a x) (oRow N2 (clsF F2 N2) q2 b x)
  | 0, _ => hq
  | x + 1, hx => by
    have ih := Side.row T ha hb hs hq x (by omega)
    exact ih.add T (T.h1.at ha (by omega)).2 (T.h2.at hb (by omega)).2 (cell_same T ha hb hs (by omega))
theorem Side.q (T : Two L k1 k2 F1 N1 F2 N2) {a b : Nat} (ha : a < k1) (hb : b < k2) (la : (liveL F1 N1).getD a false = true) (lb : (liveL F2 N2).getD b false = true) (hs : SameL F1 N1 F2 N2 a b) : ∀ i, Side k1 k2 F1 N1 F2 N2 (oQ N1 (clsF F1 N1) a i) (oQ N2 (clsF F2 N2) b i)
  | 0 => ⟨rfl, fun j hj => by
    have : j = 0 := by simp [oQ] at hj; omega
    subst this
    exact ⟨a, b, rfl, rfl, ha, hb, la, lb, hs⟩⟩
  | i + 1 => by
    have ih := Side.q T ha hb la lb hs i
    rw [oQ, oQ, ← ih.1]
    split
    · rename_i hi
      obtain ⟨u, v, e1, e2, hu, hv, lu, lv, huv⟩ := ih.2 i hi
      unfold oStp
      rw [e1, e2, Int.toNat_natCast, Int.toNat_natCast, (T.h1.get hu).1, (T.h2.get hv).1]
      exact Side.row T hu hv huv ih L (Nat.le_refl _)
    · exact ih
end
def mvs (l : List (Int × Int)) : List (List D) := l.map fun x => [i64 x.1, i64 x.2]
theorem mvs_len (l : List (Int × Int)) : (mvs l).length = l.length := by simp [mvs]
theorem mvs_get {l : List (Int × Int)} {i : Nat} (h : i < l.length) : (mvs l).getD i [] = [i64 (l.getD i (0, 0)).1, i64 (l.getD i (0, 0)).2] := by
  simp [mvs, List.getD, List.getElem?_eq_getElem h]
theorem mvs_take (l : List (Int × Int)) (k : Nat) : (mvs l).take k = mvs (l.take k) := by simp [mvs]
theorem mvs_snoc (l : List (Int × Int)) (a b : Int) : mvs l ++ [[i64 a, i64 b]] = mvs (l ++ [(a, b)]) := by simp [mvs]
def mmv (M : List (List (Int × Int))) : List (List D) := M.map fun r => [.sl false (mvs r)]
theorem mmv_len (M : List (List (Int × Int))) : (mmv M).length = M.length := by simp [mmv]
theorem mmv_get {M : List (List (Int × Int))} {i : Nat} (h : i < M.length) : (mmv M).getD i [] = [.sl false (mvs (M.getD i []))] := by
  simp [mmv, List.getD, List.getElem?_eq_getElem h]
theorem mmv_take (M : List (List (Int × Int))) (k : Nat) : (mmv M).take k = mmv (M.take k) := by simp [mmv]
def nfaD (L s : Nat) (F : List Bool) (M : List (List (Int × Int))) : D := .agg [i64 L, i64 s, .sl false (bos F), .sl false (mmv M)]
structure MOk (L k : Nat) (M : List (List (Int × Int))) : Prop where
  len : M.length = k
  row : ∀ r ∈ M, ∀ x ∈ r, -1 ≤ x.1 ∧ x.1 < (L : Int) ∧ 0 ≤ x.2 ∧ x.2 < (k : Int)
theorem MOk.get {L k : Nat} {M : List (List (Int × Int))} (h : MOk L k M) (s : Nat) : ∀ x ∈ M.getD s [], -1 ≤ x.1 ∧ x.1 < (L : Int) ∧ 0 ≤ x.2 ∧ x.2 < (k : Int) := by
  intro x hx
  rcases Nat.lt_or_ge s M.length with q | q
  · have e : M.getD s [] = M[s] := by simp [List.getD, List.getElem?_eq_getElem q]
    rw [e] at hx
    exact h.row _ (List.getElem_mem _) x hx
  · simp [List.getD, List.getElem?_eq_none q] at hx
def ownRowsV (n : Nat) (g : Nat → Nat) : List (List D) := (List.range n).map fun r => [D.own (r + 90000) 0 (g r)]
theorem ownRowsV_len (n : Nat) (g : Nat → Nat) : (ownRowsV n g).length = n := by simp [ownRowsV]
theorem ownRowsV_row (n : Nat) (g : Nat → Nat) : (∀ row ∈ ownRowsV n g, row.length = 1) = True := by simp [ownRowsV]
theorem ownRowsV_kill {n k : Nat} {g : Nat → Nat} (h : decide (k < 90000) = true) : (ownRowsV n g).map (D.killL k) = ownRowsV n g := by
  have := of_decide_eq_true h
  simp only [ownRowsV, List.map_map]
  apply List.map_congr_left
  intro r hr
  simp only [Function.comp, D.killL, D.kill]
  rw [if_neg (by omega)]
theorem ownRowsV_killB {n k : Nat} {g : Nat → Nat} (hn : n ≤ 10000) (h : decide (10000 + 90000 ≤ k) = true) : (ownRowsV n g).map (D.killL k) = ownRowsV n g := by
  have := of_decide_eq_true h
  simp only [ownRowsV, List.map_map]
  apply List.map_congr_left
  intro r hr
  have := List.mem_range.1 hr
  simp only [Function.comp, D.killL, D.kill]
  rw [if_neg (by omega)]
section
variable {P : Program} {E : Ent}
end
theorem getD_set_self {l : List Bool} {i : Nat} (h : i < l.length) {x d : Bool} : (l.set i x).getD i d = x := by simp [List.getD, h]
theorem getD_set_nq {l : List Bool} {i j : Nat} (h : i ≠ j) {x d : Bool} : (l.set i x).getD j d = l.getD j d := by simp only [List.getD, List.getElem?_set_ne h]
theorem getD_lt_true {l : List Bool} {i : Nat} (h : l.getD i false = true) : i < l.length := by
  rcases Nat.lt_or_ge i l.length with q | q
  · exact q
  · simp [List.getD, List.getElem?_eq_none q] at h
def itF (f : List Bool → List Bool) (o : List Bool) : Nat → List Bool
  | 0 => o
  | r + 1 => f (itF f o r)
section
variable {f : List Bool → List Bool} (hf : ∀ o, bleB o (f o))
include hf
theorem itF_ble (o : List Bool) : ∀ r, bleB o (itF f o r)
  | 0 => bleB_refl o
  | r + 1 => bleB_trans (itF_ble o r) (hf _)
theorem itF_len (o : List Bool) (r : Nat) : (itF f o r).length = o.length := (itF_ble hf o r).1.symm
theorem itF_grows (o : List Bool) : ∀ r, (∃ q, q ≤ r ∧ f (itF f o q) = itF f o q) ∨ r + 1 ≤ (itF f o (r + 1)).count true
  | 0 => by
    by_cases h : f (itF f o 0) = itF f o 0
    · exact .inl ⟨0, Nat.le_refl _, h⟩
    · right
      have hb := ble_count (hf (itF f o 0))
      have : (itF f o 0).count true ≠ (f (itF f o 0)).count true := fun e => h (hb.2 e).symm
      have e : itF f o (0 + 1) = f (itF f o 0) := rfl
      rw [e]; omega
  | r + 1 => by
    rcases itF_grows o r with ⟨q, h1, h2⟩ | h
    · exact .inl ⟨q, by omega, h2⟩
    · by_cases hs : f (itF f o (r + 1)) = itF f o (r + 1)
      · exact .inl ⟨r + 1, Nat.le_refl _, hs⟩
      · right
        have hb := ble_count (hf (itF f o (r + 1)))
        have : (itF f o (r + 1)).count true ≠ (f (itF f o (r + 1))).count true := fun e => hs (hb.2 e).symm
        have e : itF f o (r + 1 + 1) = f (itF f o (r + 1)) := rfl
        rw [e]; omega
omit hf in
theorem itF_stop {o : List Bool} {r : Nat} (h : f (itF f o r) = itF f o r) : ∀ k, itF f o (r + k) = itF f o r
  | 0 => rfl
  | k + 1 => by rw [← Nat.add_assoc, itF, itF_stop h k, h]
theorem itF_stable (o : List Bool) {n : Nat} (hn : o.length ≤ n) : f (itF f o n) = itF f o n := by
  have key : ∃ q, q ≤ n ∧ f (itF f o q) = itF f o q := by
    rcases itF_grows hf o n with h | h
    · exact h
    · exfalso
      have h1 := List.count_le_length (a := true) (l := itF f o (n + 1))
      rw [itF_len hf] at h1; omega
  obtain ⟨q, h1, h2⟩ := key
  have := itF_stop h2 (n - q)
  rw [show q + (n - q) = n by omega] at this
  rw [this]; exact h2
end
abbrev Mv := List (List (Int × Int))
def rowB (r : List (Int × Int)) (b : List Bool) : Nat → List Bool
  | 0 => b
  | j + 1 => if (r.getD j (0, 0)).1 = -1 then (rowB r b j).set (r.getD j (0, 0)).2.toNat true else rowB r b j
def stB (M : Mv) (b : List Bool) (s : Nat) : List Bool := if b.getD s false = true then rowB (M.getD s []) b (M.getD s []).length else b
def swS (M : Mv) (b : List Bool) : Nat → List Bool
  | 0 => b
  | s + 1 => stB M (swS M b s) s
def swB (M : Mv) (b : List Bool) : List Bool := swS M b M.length
def inB (k : Nat) (l : List Int) : Nat → List Bool
  | 0 => List.replicate k false
  | i + 1 => if 0 ≤ l.getD i 0 ∧ l.getD i 0 < (k : Int) then (inB k l i).set (l.getD i 0).toNat true else inB k l i
def cloB (M : Mv) (l : List Int) : List Bool := itF (swB M) (inB M.length l l.length) M.length
def onL (n : Nat) (p : Nat → Bool) : List Int := ((List.range n).filter p).map fun (x : Nat) => (x : Int)
def cloL (M : Mv) (l : List Int) : List Int := onL M.length fun x => (cloB M l).getD x false
theorem onL_mem {n : Nat} {p : Nat → Bool} {x : Int} : x ∈ onL n p ↔ ∃ y : Nat, x = (y : Int) ∧ y < n ∧ p y = true := by
  simp only [onL, List.mem_map, List.mem_filter, List.mem_range]
  constructor
  · rintro ⟨y, ⟨h1, h2⟩, rfl⟩; exact ⟨y, rfl, h1, h2⟩
  · rintro ⟨y, rfl, h1, h2⟩; exact ⟨y, ⟨h1, h2⟩, rfl⟩
theorem onL_sorted (n : Nat) (p : Nat → Bool) : (onL n p).Pairwise (· < ·) := by
  unfold onL
  rw [List.pairwise_map]
  refine List.Pairwise.imp (fun {a b} h => ?_) ((List.pairwise_lt_range (n := n)).filter p)
  exact Int.ofNat_lt.2 h
theorem onL_len (n : Nat) (p : Nat → Bool) : (onL n p).length ≤ n := by
  unfold onL
  rw [List.length_map]
  have := List.length_filter_le p (List.range n)
  simpa using this
theorem onL_succ (n : Nat) (p : Nat → Bool) : onL (n + 1) p = onL n p ++ (if p n = true then [(n : Int)] else []) := by
  unfold onL
  rw [List.range_succ, List.filter_append, List.map_append]
  congr 1
  by_cases h : p n = true <;> simp [h]
theorem sorted_ext : ∀ {a b : List Int}, a.Pairwise (· < ·) → b.Pairwise (· < ·) → (∀ x, x ∈ a ↔ x ∈ b) → a = b
  | [], [], _, _, _ => rfl
  | [], y :: b, _, _, h => by have := (h y).2 (by simp); cases this
  | x :: a, [], _, _, h => by have := (h x).1 (by simp); cases this
  | x :: a, y :: b, h1, h2, h => by
    rw [List.pairwise_cons] at h1 h2
    have e : x = y := by
      rcases List.mem_cons.1 ((h x).1 (by simp)) with q | q
      · exact q
      · rcases List.mem_cons.1 ((h y).2 (by simp)) with r | r
        · exact r.symm
        · have q1 := h2.1 x q
          have q2 := h1.1 y r
          omega
    subst e
    congr 1
    refine sorted_ext h1.2 h2.2 fun z => ⟨fun hz => ?_, fun hz => ?_⟩
    · rcases List.mem_cons.1 ((h z).1 (by simp [hz])) with q | q
      · have := h1.1 z hz; omega
      · exact q
    · rcases List.mem_cons.1 ((h z).2 (by simp [hz])) with q | q
      · have := h2.1 z hz; omega
      · exact q
theorem rowB_ble (r : List (Int × Int)) (b : List Bool) : ∀ j, bleB b (rowB r b j)
  | 0 => bleB_refl b
  | j + 1 => by
    rw [rowB]
    split
    · exact bleB_trans (rowB_ble r b j) (set_ble _ _)
    · exact rowB_ble r b j
theorem stB_ble (M : Mv) (b : List Bool) (s : Nat) : bleB b (stB M b s) := by
  unfold stB
  split
  · exact rowB_ble _ _ _
  · exact bleB_refl b
theorem swS_ble (M : Mv) (b : List Bool) : ∀ s, bleB b (swS M b s)
  | 0 => bleB_refl b
  | s + 1 => bleB_trans (swS_ble M b s) (stB_ble M _ s)
theorem swB_ble (M : Mv) (b : List Bool) : bleB b (swB M b) := swS_ble M b _
theorem inB_len (k : Nat) (l : List Int) : ∀ i, (inB k l i).length = k
  | 0 => by simp [inB]
  | i + 1 => by
    rw [inB]
    split
    · rw [List.length_set, inB_len k l i]
    · exact inB_len k l i
theorem rowB_len (r : List (Int × Int)) (b : List Bool) (j : Nat) : (rowB r b j).length = b.length := (rowB_ble r b j).1.symm
theorem cloB_len (M : Mv) (l : List Int) : (cloB M l).length = M.length := by
  unfold cloB
  rw [itF_len (swB_ble M), inB_len]
inductive ER (M : Mv) (l : List Int) : Nat → Prop
  | base {x : Nat} (h : (x : Int) ∈ l) (hk : x < M.length) : ER M l x
  | step {s t : Nat} (hs : ER M l s) (hm : ((-1 : Int), (t : Int)) ∈ M.getD s []) (ht : t < M.length) : ER M l t
theorem ER.lt {M : Mv} {l : List Int} {x : Nat} (h : ER M l x) : x < M.length := by
  cases h with
  | base _ hk => exact hk
  | step _ _ ht => exact ht
theorem inB_er {M : Mv} {l : List Int} : ∀ {i : Nat}, i ≤ l.length → ∀ {x : Nat}, (inB M.length l i).getD x false = true → ER M l x
  | 0, _, x, h => by
    have := getD_lt_true h
    rw [inB_len] at this
    simp [inB, List.getD, this] at h
  | i + 1, hi, x, h => by
    rw [inB] at h
    split at h
    · rename_i hc
      by_cases e : (l.getD i 0).toNat = x
      · subst e
        refine .base ?_ (by omega)
        rw [show (((l.getD i 0).toNat : Nat) : Int) = l.getD i 0 by omega]
        simp [List.getD, List.getElem?_eq_getElem (show i < l.length by omega)]
      · rw [getD_set_nq e] at h
        exact inB_er (by omega) h
    · exact inB_er (by omega) h
theorem inB_keep {k : Nat} {l : List Int} {x : Nat} : ∀ {i j : Nat}, (inB k l i).getD x false = true → (inB k l (i + j)).getD x false = true
  | i, 0, h => h
  | i, j + 1, h => by
    rw [← Nat.add_assoc, inB]
    have := inB_keep (j := j) h
    split
    · exact (set_ble _ _).2 x this
    · exact this
theorem inB_base {k : Nat} {l : List Int} {x : Nat} (h : (x : Int) ∈ l) (hx : x < k) : (inB k l l.length).getD x false = true := by
  obtain ⟨i, hi, e⟩ := List.getElem_of_mem h
  have e2 : l.getD i 0 = (x : Int) := by simp [List.getD, List.getElem?_eq_getElem hi, e]
  have : (inB k l (i + 1)).getD x false = true := by
    rw [inB, if_pos (by omega), e2, Int.toNat_natCast]
    exact getD_set_self (by rw [inB_len]; exact hx)
  have := inB_keep (j := l.length - (i + 1)) this
  rwa [show i + 1 + (l.length - (i + 1)) = l.length by omega] at this
section
variable {L k : Nat} {M : Mv} {l : List Int}
theorem rowB_er (h : MOk L k M) {s : Nat} {b : List Bool} (hs : ER M l s) (hb : ∀ {x : Nat}, b.getD x false = true → ER M l x) : ∀ {j : Nat}, j ≤ (M.getD s []).length → ∀ {x : Nat}, (rowB (M.getD s []) b j).getD x false = true → ER M l x
  | 0, _, x, hx => hb hx
  | j + 1, hj, x, hx => by
    rw [rowB] at hx
    split at hx
    · rename_i hc
      have hm : (M.getD s []).getD j (0, 0) ∈ M.getD s [] := by
        generalize M.getD s [] = r at *
        simp [List.getD, List.getElem?_eq_getElem (show j < r.length by omega)]
      have hg := h.get s _ hm
      generalize (M.getD s []).getD j (0, 0) = y at *
      by_cases e : y.2.toNat = x
      · subst e
        refine .step hs ?_ (by have := h.len; omega)
        rw [show ((y.2.toNat : Nat) : Int) = y.2 by omega, ← hc]
        exact hm
      · rw [getD_set_nq e] at hx
        exact rowB_er h hs hb (by omega) hx
    · exact rowB_er h hs hb (by omega) hx
theorem swS_er (h : MOk L k M) {b : List Bool} (hb : ∀ {x : Nat}, b.getD x false = true → ER M l x) : ∀ {s x : Nat}, (swS M b s).getD x false = true → ER M l x
  | 0, x, hx => hb hx
  | s + 1, x, hx => by
    rw [swS, stB] at hx
    split at hx
    · rename_i hc
      exact rowB_er h (swS_er h hb hc) (fun hx => swS_er h hb hx) (Nat.le_refl _) hx
    · exact swS_er h hb hx
theorem itF_er (h : MOk L k M) {b : List Bool} (hb : ∀ {x : Nat}, b.getD x false = true → ER M l x) : ∀ {r x : Nat}, (itF (swB M) b r).getD x false = true → ER M l x
  | 0, x, hx => hb hx
  | r + 1, x, hx => swS_er h (fun hx => itF_er h hb hx) hx
theorem rowB_has {r : List (Int × Int)} {b : List Bool} {t : Nat} (hm : ((-1 : Int), (t : Int)) ∈ r) (ht : t < b.length) : (rowB r b r.length).getD t false = true := by
  obtain ⟨i, hi, e⟩ := List.getElem_of_mem hm
  have e2 : r.getD i (0, 0) = (-1, (t : Int)) := by simp [List.getD, List.getElem?_eq_getElem hi, e]
  have h1 : (rowB r b (i + 1)).getD t false = true := by
    rw [rowB, e2, if_pos rfl]
    exact getD_set_self (by rw [rowB_len]; exact ht)
  have h2 : ∀ j, (rowB r b (i + 1 + j)).getD t false = true := fun j => by
    induction j with
    | zero => exact h1
    | succ j ih =>
      rw [← Nat.add_assoc, rowB]
      split
      · exact (set_ble _ _).2 t ih
      · exact ih
  have := h2 (r.length - (i + 1))
  rwa [show i + 1 + (r.length - (i + 1)) = r.length by omega] at this
theorem swS_eq {b : List Bool} (h : swB M b = b) : ∀ i, i ≤ M.length → swS M b i = b := by
  intro i hi
  have h1 : bleB b (swS M b i) := swS_ble M b i
  have h2 : ∀ k, bleB (swS M b i) (swS M b (i + k)) := fun k => by
    induction k with
    | zero => exact bleB_refl _
    | succ k ih => exact bleB_trans ih (stB_ble M _ _)
  have h3 := h2 (M.length - i)
  rw [show i + (M.length - i) = M.length by omega, show swS M b M.length = b from h] at h3
  have c1 := ble_count h1
  have c2 := ble_count h3
  exact (c1.2 (by omega)).symm
theorem cloB_iff (h : MOk L k M) {x : Nat} : (cloB M l).getD x false = true ↔ ER M l x := by
  constructor
  · exact itF_er h fun hx => inB_er (Nat.le_refl _) hx
  · intro hx
    have hst : swB M (cloB M l) = cloB M l := itF_stable (swB_ble M) _ (by rw [inB_len]; exact Nat.le_refl _)
    induction hx with
    | base hm hk => exact (itF_ble (swB_ble M) _ _).2 _ (inB_base hm hk)
    | @step s t hs hm ht ih =>
      have hsl : s < M.length := by have := getD_lt_true ih; rwa [cloB_len] at this
      have h1 := swS_eq hst s (by omega)
      have h2 := swS_eq hst (s + 1) (by omega)
      rw [swS, h1, stB, if_pos ih] at h2
      rw [← h2]
      exact rowB_has hm (by rw [cloB_len]; exact ht)
theorem cloL_mem (h : MOk L k M) {x : Int} : x ∈ cloL M l ↔ ∃ y : Nat, x = (y : Int) ∧ ER M l y := by
  unfold cloL
  rw [onL_mem]
  constructor
  · rintro ⟨y, rfl, h1, h2⟩; exact ⟨y, rfl, (cloB_iff h).1 h2⟩
  · rintro ⟨y, rfl, h2⟩; exact ⟨y, rfl, h2.lt, (cloB_iff h).2 h2⟩
end
def stepP (M : Mv) (l : List Int) (a : Int) (s : Nat) : Bool := (List.range M.length).any fun i => l.contains (i : Int) && (M.getD i []).any fun m => m.1 == a && m.2 == (s : Int)
def stepL (M : Mv) (l : List Int) (a : Int) : List Int := onL M.length (stepP M l a)
theorem stepL_mem {L k : Nat} {M : Mv} (h : MOk L k M) {l : List Int} {a x : Int} : x ∈ stepL M l a ↔ ∃ i : Nat, (i : Int) ∈ l ∧ (a, x) ∈ M.getD i [] := by
  unfold stepL
  rw [onL_mem]
  constructor
  · rintro ⟨y, rfl, h1, h2⟩
    simp only [stepP, List.any_eq_true, List.mem_range, Bool.and_eq_true, List.contains_iff_mem, beq_iff_eq] at h2
    obtain ⟨i, hi, hl, ⟨m1, m2⟩, hm, e1, e2⟩ := h2
    simp only at e1 e2
    subst e1 e2
    exact ⟨i, hl, hm⟩
  · rintro ⟨i, hl, hm⟩
    have hg := h.get i _ hm
    have hi : i < M.length := by
      rcases Nat.lt_or_ge i M.length with q | q
      · exact q
      · simp [List.getD, List.getElem?_eq_none q] at hm
    simp only at hg
    refine ⟨x.toNat, by omega, by have := h.len; omega, ?_⟩
    simp only [stepP, List.any_eq_true, List.mem_range, Bool.and_eq_true, List.contains_iff_mem, beq_iff_eq]
    exact ⟨i, hi, hl, _, hm, rfl, by simp only; omega⟩
def outL (L : Nat) (M : Mv) (l : List Int) : List Int := onL L fun a => !(stepL M l (a : Int)).isEmpty
theorem outL_mem {L k : Nat} {M : Mv} (h : MOk L k M) {l : List Int} {a : Int} : a ∈ outL L M l ↔ 0 ≤ a ∧ ∃ (i : Nat) (x : Int), (i : Int) ∈ l ∧ (a, x) ∈ M.getD i [] := by
  unfold outL
  rw [onL_mem]
  constructor
  · rintro ⟨y, rfl, h1, h2⟩
    refine ⟨by omega, ?_⟩
    obtain ⟨x, hx⟩ := List.exists_mem_of_ne_nil (stepL M l (y : Int)) (by intro e; rw [e] at h2; cases h2)
    obtain ⟨i, h3, h4⟩ := (stepL_mem h).1 hx
    exact ⟨i, x, h3, h4⟩
  · rintro ⟨h0, i, x, h1, h2⟩
    have hg := h.get i _ h2
    simp only at hg
    refine ⟨a.toNat, by omega, by omega, ?_⟩
    have hx := (stepL_mem h (l := l)).2 ⟨i, h1, h2⟩
    rw [show ((a.toNat : Nat) : Int) = a by omega]
    cases hs : stepL M l a with
    | nil => rw [hs] at hx; cases hx
    | cons y t => rfl
def finL (F : List Bool) (l : List Int) : Bool := l.any fun s => decide (0 ≤ s) && decide (s < (F.length : Int)) && F.getD s.toNat false
def takS (M : Mv) (l : List Int) : List Int → List Int
  | [] => l
  | a :: w => takS M (cloL M (stepL M l a)) w
def takB (M : Mv) (F : List Bool) (st : Nat) (w : List Int) : Bool := finL F (takS M (cloL M [(st : Int)]) w)
def dTo (M : Mv) (S : List Int) (a : Int) : List Int := cloL M (stepL M S a)
def addQ (q : List (List Int)) (t : List Int) : List (List Int) := if q.contains t = true then q else q ++ [t]
def dFold (M : Mv) (S : List Int) : List (List Int) → List Int → List (List Int)
  | q, [] => q
  | q, a :: ks => dFold M S (addQ q (dTo M S a)) ks
def dQ (L : Nat) (M : Mv) (z : List Int) : Nat → List (List Int)
  | 0 => [z]
  | i + 1 => if i < (dQ L M z i).length then dFold M ((dQ L M z i).getD i []) (dQ L M z i) (outL L M ((dQ L M z i).getD i [])) else dQ L M z i
def dAll (L : Nat) (M : Mv) (z : List Int) : List (List Int) := dQ L M z (2 ^ M.length)
def dNum (M : Mv) (q : List (List Int)) (S : List Int) (a : Int) : Int := if (stepL M S a).isEmpty = true then -1 else ((q.idxOf (dTo M S a) : Nat) : Int)
def dNx (L : Nat) (M : Mv) (q : List (List Int)) : List (List Int) := q.map fun S => (List.range L).map fun (a : Nat) => dNum M q S (a : Int)
def dFin (F : List Bool) (q : List (List Int)) : List Bool := q.map (finL F)
theorem dFold_snoc (M : Mv) (S : List Int) (a : Int) : ∀ (ks : List Int) (q : List (List Int)), dFold M S q (ks ++ [a]) = addQ (dFold M S q ks) (dTo M S a)
  | [], q => rfl
  | b :: ks, q => dFold_snoc M S a ks _
theorem dFold_app (M : Mv) (S : List Int) (ls : List Int) : ∀ (ks : List Int) (q : List (List Int)), dFold M S q (ks ++ ls) = dFold M S (dFold M S q ks) ls
  | [], q => rfl
  | b :: ks, q => dFold_app M S ls ks _
theorem addQ_pre (q : List (List Int)) (t : List Int) : ∃ u, addQ q t = q ++ u := by
  unfold addQ
  split
  · exact ⟨[], by simp⟩
  · exact ⟨_, rfl⟩
theorem addQ_has (q : List (List Int)) (t : List Int) : t ∈ addQ q t := by
  unfold addQ
  split
  · rename_i g; simpa using g
  · simp
theorem dFold_pre (M : Mv) (S : List Int) : ∀ (ks : List Int) (q : List (List Int)), ∃ u, dFold M S q ks = q ++ u
  | [], q => ⟨[], by simp [dFold]⟩
  | a :: ks, q => by
    obtain ⟨u, hu⟩ := addQ_pre q (dTo M S a)
    obtain ⟨v, hv⟩ := dFold_pre M S ks (addQ q (dTo M S a))
    exact ⟨u ++ v, by rw [dFold, hv, hu, List.append_assoc]⟩
theorem dFold_has (M : Mv) (S : List Int) {a : Int} : ∀ (ks : List Int) (q : List (List Int)), a ∈ ks → dTo M S a ∈ dFold M S q ks
  | [], q, h => by cases h
  | b :: ks, q, h => by
    rcases List.mem_cons.1 h with rfl | h
    · obtain ⟨u, hu⟩ := dFold_pre M S ks (addQ q (dTo M S a))
      rw [dFold, hu]
      exact List.mem_append_left _ (addQ_has q _)
    · exact dFold_has M S ks _ h
def subsL : Nat → List (List Int)
  | 0 => [[]]
  | k + 1 => subsL k ++ (subsL k).map fun s => s ++ [(k : Int)]
theorem subsL_len : ∀ k, (subsL k).length = 2 ^ k
  | 0 => rfl
  | k + 1 => by rw [subsL, List.length_append, List.length_map, subsL_len k, Nat.pow_succ]; omega
theorem onL_subs (p : Nat → Bool) : ∀ k, onL k p ∈ subsL k
  | 0 => by simp [onL, subsL]
  | k + 1 => by
    rw [onL_succ, subsL, List.mem_append]
    split
    · exact .inr (List.mem_map.2 ⟨_, onL_subs p k, rfl⟩)
    · left; rw [List.append_nil]; exact onL_subs p k
theorem nd_sub {α : Type} [BEq α] [LawfulBEq α] {l m : List α} (h : l.Nodup) (hs : ∀ x ∈ l, x ∈ m) : l.length ≤ m.length := by
  have h1 : (l.map fun x => m.idxOf x).Nodup := by
    unfold List.Nodup
    rw [List.pairwise_map]
    refine List.Pairwise.imp_of_mem (fun {x y} hx hy hne e => hne ?_) h
    have g1 := List.getElem_idxOf (List.idxOf_lt_length_of_mem (hs x hx))
    have g2 := List.getElem_idxOf (List.idxOf_lt_length_of_mem (hs y hy))
    rw [← g1, ← g2]
    simp only [e]
  have h2 := nodup_len m.length _ h1 fun n hn => by
    obtain ⟨x, hx, rfl⟩ := List.mem_map.1 hn
    exact List.idxOf_lt_length_of_mem (hs x hx)
  simpa using h2
structure DI (M : Mv) (q : List (List Int)) : Prop where
  mem : ∀ S ∈ q, ∃ p, S = onL M.length p
  nd : q.Nodup
theorem DI.len {M : Mv} {q : List (List Int)} (h : DI M q) : q.length ≤ 2 ^ M.length := by
  rw [← subsL_len]
  refine nd_sub h.nd fun S hS => ?_
  obtain ⟨p, rfl⟩ := h.mem S hS
  exact onL_subs p _
theorem DI.add {M : Mv} {q : List (List Int)} (h : DI M q) (S : List Int) (a : Int) : DI M (addQ q (dTo M S a)) := by
  unfold addQ
  split
  · exact h
  · rename_i hn
    refine ⟨fun T hT => ?_, ?_⟩
    · rcases List.mem_append.1 hT with g | g
      · exact h.mem T g
      · rw [List.mem_singleton] at g; subst g; exact ⟨_, rfl⟩
    · rw [List.nodup_append]
      refine ⟨h.nd, by simp, fun x hx y hy => ?_⟩
      rw [List.mem_singleton] at hy
      subst hy
      rintro rfl
      exact hn (by simpa using hx)
theorem DI.fold {M : Mv} (S : List Int) : ∀ (ks : List Int) {q : List (List Int)}, DI M q → DI M (dFold M S q ks)
  | [], q, h => h
  | a :: ks, q, h => DI.fold S ks (h.add S a)
theorem DI.entry {M : Mv} {q : List (List Int)} (h : DI M q) {S : List Int} (hS : S ∈ q) : S.length ≤ M.length ∧ ∀ x ∈ S, 0 ≤ x ∧ x < (M.length : Int) := by
  obtain ⟨p, rfl⟩ := h.mem S hS
  refine ⟨onL_len _ _, fun x hx => ?_⟩
  obtain ⟨y, rfl, hy, _⟩ := onL_mem.1 hx
  omega
theorem dQ_di {L : Nat} {M : Mv} {z : List Int} (hz : ∃ p, z = onL M.length p) : ∀ i, DI M (dQ L M z i)
  | 0 => ⟨fun S hS => by simp only [dQ, List.mem_singleton] at hS; subst hS; exact hz, by simp [dQ]⟩
  | i + 1 => by
    rw [dQ]
    split
    · exact DI.fold _ _ (dQ_di hz i)
    · exact dQ_di hz i
theorem dQ_pre (L : Nat) (M : Mv) (z : List Int) (i : Nat) : ∃ u, dQ L M z (i + 1) = dQ L M z i ++ u := by
  rw [dQ]
  split
  · exact dFold_pre _ _ _ _
  · exact ⟨[], by simp⟩
theorem dQ_pre2 (L : Nat) (M : Mv) (z : List Int) (i : Nat) : ∀ j, ∃ u, dQ L M z (i + j) = dQ L M z i ++ u
  | 0 => ⟨[], by simp⟩
  | j + 1 => by
    obtain ⟨u, hu⟩ := dQ_pre2 L M z i j
    obtain ⟨v, hv⟩ := dQ_pre L M z (i + j)
    exact ⟨u ++ v, by rw [← Nat.add_assoc, hv, hu, List.append_assoc]⟩
theorem dQ_stop {L : Nat} {M : Mv} {z : List Int} {i : Nat} (hi : ¬ i < (dQ L M z i).length) : ∀ j, dQ L M z (i + j) = dQ L M z i
  | 0 => rfl
  | j + 1 => by
    have ih := dQ_stop hi j
    rw [← Nat.add_assoc, dQ, ih, if_neg (by omega)]
structure DA (L k : Nat) (M : Mv) (z : List Int) (Q : List (List Int)) : Prop where
  hM : MOk L k M
  hz : ∃ p, z = onL M.length p
  hQ : Q = dAll L M z
section
variable {L k : Nat} {M : Mv} {z : List Int} {Q : List (List Int)}
theorem DA.di (h : DA L k M z Q) (i : Nat) : DI M (dQ L M z i) := dQ_di h.hz i
theorem DA.diQ (h : DA L k M z Q) : DI M Q := by rw [h.hQ]; exact h.di _
theorem DA.lenQ (h : DA L k M z Q) : Q.length ≤ 2 ^ k := by have := h.diQ.len; rwa [h.hM.len] at this
theorem DA.end_ (h : DA L k M z Q) {i : Nat} (hi : i ≤ 2 ^ k) (hs : ¬ i < (dQ L M z i).length) : dQ L M z i = Q := by
  have := dQ_stop (L := L) (M := M) (z := z) hs (2 ^ k - i)
  rw [show i + (2 ^ k - i) = 2 ^ k by omega] at this
  rw [h.hQ, dAll, h.hM.len, this]
theorem DA.pre (h : DA L k M z Q) {i : Nat} (hi : i ≤ 2 ^ k) : ∃ u, Q = dQ L M z i ++ u := by
  obtain ⟨u, hu⟩ := dQ_pre2 L M z i (2 ^ k - i)
  rw [show i + (2 ^ k - i) = 2 ^ k by omega] at hu
  exact ⟨u, by rw [h.hQ, dAll, h.hM.len, hu]⟩
theorem DA.lt (h : DA L k M z Q) {i : Nat} (hi : i < Q.length) : i < (dQ L M z i).length := by
  by_cases g : i < (dQ L M z i).length
  · exact g
  · have hk := h.lenQ
    have := h.end_ (by omega) g
    rw [this] at g; omega
theorem DA.at_ (h : DA L k M z Q) {i : Nat} (hi : i < Q.length) : (dQ L M z i).getD i [] = Q.getD i [] := by
  have hk := h.lenQ
  obtain ⟨u, hu⟩ := h.pre (i := i) (by omega)
  rw [hu, getD_app_lt (h.lt hi)]
theorem DA.row (h : DA L k M z Q) {i : Nat} (hi : i < Q.length) {ks ls : List Int} (hk : outL L M (Q.getD i []) = ks ++ ls) : ∃ u, Q = dFold M (Q.getD i []) (dQ L M z i) ks ++ u := by
  have hk' := h.lenQ
  obtain ⟨u, hu⟩ := h.pre (i := i + 1) (by omega)
  rw [dQ, if_pos (h.lt hi), h.at_ hi, hk, dFold_app] at hu
  obtain ⟨v, hv⟩ := dFold_pre M (Q.getD i []) ls (dFold M (Q.getD i []) (dQ L M z i) ks)
  rw [hv, List.append_assoc] at hu
  exact ⟨_, hu⟩
theorem outL_iff (a : Int) (S : List Int) : a ∈ outL L M S ↔ ∃ y : Nat, a = (y : Int) ∧ y < L ∧ (stepL M S a).isEmpty = false := by
  unfold outL
  rw [onL_mem]
  constructor
  · rintro ⟨y, rfl, h1, h2⟩; exact ⟨y, rfl, h1, by simpa using h2⟩
  · rintro ⟨y, rfl, h1, h2⟩; exact ⟨y, rfl, h1, by simpa using h2⟩
theorem DA.has (h : DA L k M z Q) {i a : Nat} (hi : i < Q.length) (ha : a < L) (hs : (stepL M (Q.getD i []) (a : Int)).isEmpty = false) : dTo M (Q.getD i []) (a : Int) ∈ Q := by
  obtain ⟨u, hu⟩ := h.row hi (ks := outL L M (Q.getD i [])) (ls := []) (by simp)
  have := dFold_has M (Q.getD i []) (outL L M (Q.getD i [])) (dQ L M z i) ((outL_iff _ _).2 ⟨a, rfl, ha, hs⟩)
  have h2 := List.mem_append_left u this
  rw [← hu] at h2
  exact h2
theorem DA.q0 (h : DA L k M z Q) : 0 < Q.length ∧ Q.getD 0 [] = z := by
  obtain ⟨u, hu⟩ := h.pre (i := 0) (Nat.zero_le _)
  rw [hu]
  simp [dQ]
theorem getD_mapD {α β : Type} (f : α → β) (d : β) (e : α) {q : List α} {i : Nat} (h : i < q.length) : (q.map f).getD i d = f (q.getD i e) := by
  simp [List.getD, List.getElem?_eq_getElem h]
theorem DA.num (h : DA L k M z Q) {i a : Nat} (hi : i < Q.length) (ha : a < L) : -1 ≤ dNum M Q (Q.getD i []) (a : Int) ∧ dNum M Q (Q.getD i []) (a : Int) < (Q.length : Int) := by
  unfold dNum
  split
  · omega
  · rename_i hs
    have := List.idxOf_lt_length_of_mem (h.has hi ha (by simpa using hs))
    omega
theorem DA.ok (h : DA L k M z Q) : NOk L Q.length (dNx L M Q) := by
  refine ⟨by simp [dNx], fun r hr => ?_⟩
  unfold dNx at hr
  obtain ⟨S, hS, rfl⟩ := List.mem_map.1 hr
  obtain ⟨i, hi, rfl⟩ := List.getElem_of_mem hS
  refine ⟨by simp, fun t ht => ?_⟩
  obtain ⟨a, ha, rfl⟩ := List.mem_map.1 ht
  have ha := List.mem_range.1 ha
  have e : Q[i] = Q.getD i [] := by simp [List.getD, List.getElem?_eq_getElem hi]
  rw [e]
  exact h.num hi ha
theorem DA.cell (h : DA L k M z Q) {i a : Nat} (hi : i < Q.length) (ha : a < L) : ((dNx L M Q).getD i []).getD a 0 = dNum M Q (Q.getD i []) (a : Int) := by
  unfold dNx
  rw [getD_mapD _ _ [] hi]
  simp [List.getD, ha]
end
theorem cloL_nil (M : Mv) {L k : Nat} (h : MOk L k M) : cloL M [] = [] := by
  cases hc : cloL M [] with
  | nil => rfl
  | cons x t =>
    exfalso
    obtain ⟨y, hxy, hy⟩ := (cloL_mem h (l := []) (x := x)).1 (by rw [hc]; simp)
    clear hxy
    induction hy with
    | base h _ => cases h
    | step _ _ _ ih => exact ih
theorem stepL_nil {L k : Nat} {M : Mv} (h : MOk L k M) (a : Int) : stepL M [] a = [] := by
  cases hc : stepL M [] a with
  | nil => rfl
  | cons x t =>
    exfalso
    obtain ⟨i, hi, _⟩ := (stepL_mem h).1 (show x ∈ stepL M [] a by rw [hc]; simp)
    cases hi
theorem takS_nil {L k : Nat} {M : Mv} (h : MOk L k M) : ∀ w : List Int, takS M [] w = []
  | [] => rfl
  | a :: w => by rw [takS, stepL_nil h, cloL_nil M h, takS_nil h w]
theorem stepL_far {L k : Nat} {M : Mv} (h : MOk L k M) (S : List Int) {a : Int} (ha : (L : Int) ≤ a) : stepL M S a = [] := by
  cases hc : stepL M S a with
  | nil => rfl
  | cons x t =>
    exfalso
    obtain ⟨i, _, hm⟩ := (stepL_mem h).1 (show x ∈ stepL M S a by rw [hc]; simp)
    have := h.get i _ hm
    simp only at this
    omega
end Go.Proofs.Ytcpipfodedfpkaa
