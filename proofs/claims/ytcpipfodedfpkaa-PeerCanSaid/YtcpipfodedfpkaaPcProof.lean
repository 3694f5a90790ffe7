import Derived.Test.YtcpipfodedfpkaaA24
import Derived.Test.YtcpipfodedfpkaaRows
import Derived.Test.YtcpipfodedfpkaaFin
set_option linter.unusedSimpArgs false
set_option linter.unusedVariables false
namespace Go.Proofs.Ytcpipfodedfpkaa
open Go.Ab
theorem acts_nodup (l : List Lab) (part : Int) : ∀ n, (acts l part n).Nodup
  | 0 => by simp [acts]
  | n + 1 => by
    rw [acts, List.nodup_append]
    refine ⟨acts_nodup l part n, ?_, fun x hx y hy e => ?_⟩
    · unfold actOf; split
      · simp
      · split <;> simp
    · obtain ⟨j, h1, h2, _⟩ := acts_in l part n x hx
      have h3 : y.2 = (n : Int) := by
        unfold actOf at hy
        split at hy
        · simp at hy; rw [hy]
        · split at hy
          · simp at hy; rw [hy]
          · cases hy
      rw [← e, h2] at h3
      omega
theorem findA_all (A : List (Int × Int)) (y : Int × Int) : findA (A.take A.length) y = findA A y := by rw [List.take_length]
theorem findA_yes {A : List (Int × Int)} (hn : A.Nodup) {y : Int × Int} {i : Nat} (h : i < A.length) (e : A.getD i (0, 0) = y) : findA (A.take (i + 1)) y = (i : Int) := by
  have h1 : A.take (i + 1) = A.take i ++ [y] := by rw [take_snoc h (0, 0), e]
  have h2 : (A.take (i + 1)).Nodup := hn.sublist (List.take_sublist _ _)
  rw [h1] at h2 ⊢
  have h3 : y ∉ A.take i := fun q => by
    have := (List.nodup_append.1 h2).2.2 y q y (by simp)
    exact this rfl
  unfold findA
  rw [if_pos (by simp), List.idxOf_append, if_neg h3, List.idxOf_cons_self, List.length_take]
  omega
theorem findA_no {A : List (Int × Int)} {y : Int × Int} {i : Nat} (h : i < A.length) (e : A.getD i (0, 0) ≠ y) : findA (A.take (i + 1)) y = findA (A.take i) y := by
  rw [take_snoc h (0, 0)]
  generalize A.getD i (0, 0) = x at *
  unfold findA
  by_cases q : y ∈ A.take i
  · have q1 : (A.take i).contains y = true := by simpa using q
    have q2 : (A.take i ++ [x]).contains y = true := by simp [q]
    rw [if_pos q1, if_pos q2, List.idxOf_append, if_pos q]
  · have q1 : ¬ (A.take i).contains y = true := by simpa using q
    have q2 : ¬ (A.take i ++ [x]).contains y = true := by simp [q]; exact fun z => e z.symm
    rw [if_neg q1, if_neg q2]
theorem findA_bd (A : List (Int × Int)) (y : Int × Int) : -1 ≤ findA A y ∧ findA A y < (A.length : Int) := by
  unfold findA
  split
  · rename_i h
    have := List.idxOf_lt_length_of_mem (List.contains_iff_mem.1 h)
    omega
  · omega
theorem canP_pre (N : List (List Int)) (s : Int) (i : Nat) : ∀ d, ∃ u, canP N s (i + d) = canP N s i ++ u
  | 0 => ⟨[], by simp⟩
  | d + 1 => by
    obtain ⟨u, hu⟩ := canP_pre N s i d
    exact ⟨u ++ if 0 ≤ toD N s ((i + d : Nat) : Int) then [((i + d : Nat) : Int)] else [], by rw [← Nat.add_assoc, canP, hu, List.append_assoc]⟩
theorem canP_at {N : List (List Int)} {s : Int} {i m : Nat} (h : i < m) (ht : 0 ≤ toD N s i) : (canP N s i).length < (canP N s m).length ∧ (canP N s m).getD (canP N s i).length 0 = (i : Int) := by
  obtain ⟨d, rfl⟩ := Nat.exists_eq_add_of_le (show i + 1 ≤ m from h)
  obtain ⟨u, hu⟩ := canP_pre N s (i + 1) d
  rw [hu, canP, if_pos ht]
  constructor
  · simp
  · simp [List.getD]
theorem canP_none {N : List (List Int)} {s : Int} (h : ∀ a : Nat, toD N s a = -1) : ∀ m, canP N s m = []
  | 0 => rfl
  | m + 1 => by rw [canP, canP_none h m, h m]; rfl
set_option maxRecDepth 20000 in
set_option maxHeartbeats 32000000 in
theorem c_PeerCanL (f : Bool) (l : List (Int × Int × Int)) (z0 z1 z2 a1 a2 : Int) (hl : l.length ≤ 9223372036854775807) :
    Contract Try.prog 5 [.sl f (tri l), .agg [i64 z0, i64 z1, i64 z2], .agg [i64 a1, i64 a2]] (bo true) [] := by
  refine contract_of_awp (rs := [6]) Try.func5 rfl Try.ntmps5 (by simp) rfl fun E => ?_
  have hAny := c_RAny f l (z0.fdiv (2 ^ min 4 IntKind.i64.bits)) z0 z1 hl
  obtain ⟨fin, hfin⟩ : ∃ fin, z0.fdiv (2 ^ min 4 IntKind.i64.bits) = fin := ⟨_, rfl⟩
  rw [hfin] at hAny
  have hL := labD_le z0
  rw [← labP_len] at hL
  have hk := numD_le z1
  have hst := startD_lt z1
  have hok := nextD_ok (L := (labP z0).length) hk.1 l
  have hF := finD_len fin (numD z1)
  generalize nextD (labP z0).length (numD z1) l = N at *
  generalize labP z0 = lb at *
  generalize finD fin (numD z1) = F at *
  generalize numD z1 = k at *
  generalize startD z1 = st at *
  obtain ⟨C, hC, hCw0⟩ := and_low z2 255 (by decide)
  have hCw : IntKind.i64.wrap ((BitVec.ofInt IntKind.i64.bits z2 &&& BitVec.ofInt IntKind.i64.bits 255).toNat : Int) = (C : Int) := hCw0
  obtain ⟨pt, hpt, hptw⟩ : ∃ pt : Nat, pt < 3 ∧ (C : Int).tmod 3 = (pt : Int) := ⟨C % 3, Nat.mod_lt _ (by decide), by rw [Int.tmod_eq_emod_of_nonneg (by omega)]; omega⟩
  obtain ⟨c, hc, hcw0⟩ := and_low (z2.fdiv (2 ^ min 8 IntKind.i64.bits)) 7 (by decide)
  have hcw : IntKind.i64.wrap ((BitVec.ofInt IntKind.i64.bits (z2.fdiv (2 ^ min 8 IntKind.i64.bits)) &&& BitVec.ofInt IntKind.i64.bits 7).toNat : Int) = (c : Int) := hcw0
  obtain ⟨s, hs⟩ : ∃ s : Int, s = (c : Int) - 1 := ⟨_, rfl⟩
  have hsw : IntKind.i64.wrap ((c : Int) - 1) = s := by rw [hs]; exact i64_in (by omega) (by omega)
  obtain ⟨y1, hy1, hy1w0⟩ := and_low a1 3 (by decide)
  have hy1w : IntKind.i64.wrap ((BitVec.ofInt IntKind.i64.bits a1 &&& BitVec.ofInt IntKind.i64.bits 3).toNat : Int) = (y1 : Int) := hy1w0
  obtain ⟨y2, hy2, hy2w0⟩ := and_low a2 7 (by decide)
  have hy2w : IntKind.i64.wrap ((BitVec.ofInt IntKind.i64.bits a2 &&& BitVec.ofInt IntKind.i64.bits 7).toNat : Int) = (y2 : Int) := hy2w0
  (repeat (first | refine awp_seq ?_ | refine awp_block ?_ | ((first | refine awp_skip ?_ | refine awp_exit ?_ | refine awp_reg ttok ?_ | (refine awp_draw ttok ?dr_calm ?_; (case dr_calm => decide +kernel)) | refine awp_condM ?_); simp (maxSteps := 4000000) only [↓reduceIte, Nat.reduceLT, Nat.reduceEqDiff, reduceCtorEq, Nat.reduceAdd, Nat.reduceMul, Int.reduceLE, Int.reduceLT, Int.reduceToNat, Nat.reduceLeDiff, Nat.reduceSub, Int.reduceEq, Nat.reduceBEq, List.replicate, List.set, evB, tyA, hfin]; (repeat (with_reducible refine And.intro ?_ ?_; exact sdX)); (with_reducible first | refine awp_id ?_ | refine id_call ?_ | refine id_and ?_ | refine id_ex ?_ | refine id_all ?_ | refine id_nat ?_ | refine id_le ?_))))
  refine callVC_mk fnok17 hAny rfl ?_
  simp (maxSteps := 4000000) only [↓reduceIte, Nat.reduceLT, Nat.reduceEqDiff, reduceCtorEq, Nat.reduceAdd, Nat.reduceMul, Int.reduceLE, Int.reduceLT, Int.reduceToNat, Nat.reduceLeDiff, Nat.reduceSub, Int.reduceEq, Nat.reduceBEq, List.replicate, List.set, evB, tyA, dfaD]
  (repeat (with_reducible refine And.intro ?_ ?_; exact sdX))
  (repeat (first | refine awp_seq ?_ | refine awp_block ?_ | ((first | refine awp_skip ?_ | refine awp_exit ?_ | refine awp_reg ttok ?_ | (refine awp_draw ttok ?dr_calm ?_; (case dr_calm => decide +kernel)) | refine awp_condM ?_); simp (maxSteps := 4000000) only [↓reduceIte, Nat.reduceLT, Nat.reduceEqDiff, reduceCtorEq, Nat.reduceAdd, Nat.reduceMul, Int.reduceLE, Int.reduceLT, Int.reduceToNat, Nat.reduceLeDiff, Nat.reduceSub, Int.reduceEq, Nat.reduceBEq, List.replicate, List.set, evB, tyA]; (repeat (with_reducible refine And.intro ?_ ?_; exact sdX)); (with_reducible first | refine awp_id ?_ | refine id_call ?_ | refine id_and ?_ | refine id_ex ?_ | refine id_all ?_ | refine id_nat ?_ | refine id_le ?_))))
  cases hv : (liveL F N).getD st false
  · rcases hide_says hok (by omega) (by omega) st hst F hF 0 with ⟨h0, _⟩ | ⟨_, hOf⟩
    · rw [hv] at h0; cases h0
    · refine callVC_mk fnok23 (c_PeersNo hok st F false (hOf false)) rfl ?_
      simp (maxSteps := 4000000) only [↓reduceIte, Nat.reduceLT, Nat.reduceEqDiff, reduceCtorEq, Nat.reduceAdd, Nat.reduceMul, Int.reduceLE, Int.reduceLT, Int.reduceToNat, Nat.reduceLeDiff, Nat.reduceSub, Int.reduceEq, Nat.reduceBEq, List.replicate, List.set, evB, tyA]
      (repeat (with_reducible refine And.intro ?_ ?_; exact sdX))
      (repeat (first | refine awp_seq ?_ | refine awp_block ?_ | ((first | refine awp_skip ?_ | refine awp_exit ?_ | refine awp_reg ttok ?_ | (refine awp_draw ttok ?dr_calm ?_; (case dr_calm => decide +kernel)) | refine awp_condM ?_); simp (maxSteps := 4000000) only [↓reduceIte, Nat.reduceLT, Nat.reduceEqDiff, reduceCtorEq, Nat.reduceAdd, Nat.reduceMul, Int.reduceLE, Int.reduceLT, Int.reduceToNat, Nat.reduceLeDiff, Nat.reduceSub, Int.reduceEq, Nat.reduceBEq, List.replicate, List.set, evB, tyA]; (repeat (with_reducible refine And.intro ?_ ?_; exact sdX)); (with_reducible first | refine awp_id ?_ | refine id_call ?_ | refine id_and ?_ | refine id_ex ?_ | refine id_all ?_ | refine id_nat ?_ | refine id_le ?_))))
      refine callVC_scal fnok24 c_awake24 rfl ?_
      simp (maxSteps := 4000000) only [↓reduceIte, Nat.reduceLT, Nat.reduceEqDiff, reduceCtorEq, Nat.reduceAdd, Nat.reduceMul, Int.reduceLE, Int.reduceLT, Int.reduceToNat, Nat.reduceLeDiff, Nat.reduceSub, Int.reduceEq, Nat.reduceBEq, List.replicate, List.set, evB, tyA]
      (repeat (with_reducible refine And.intro ?_ ?_; exact sdX))
      (repeat (first | refine awp_seq ?_ | refine awp_block ?_ | ((first | refine awp_skip ?_ | refine awp_exit ?_ | refine awp_reg ttok ?_ | (refine awp_draw ttok ?dr_calm ?_; (case dr_calm => decide +kernel)) | refine awp_condM ?_); simp (maxSteps := 4000000) only [↓reduceIte, Nat.reduceLT, Nat.reduceEqDiff, reduceCtorEq, Nat.reduceAdd, Nat.reduceMul, Int.reduceLE, Int.reduceLT, Int.reduceToNat, Nat.reduceLeDiff, Nat.reduceSub, Int.reduceEq, Nat.reduceBEq, List.replicate, List.set, evB, tyA]; (repeat (with_reducible refine And.intro ?_ ?_; exact sdX)); (with_reducible first | refine awp_id ?_ | refine id_call ?_ | refine id_and ?_ | refine id_ex ?_ | refine id_all ?_ | refine id_nat ?_ | refine id_le ?_))))
      exact awp_ret (ends_plain (.inr rfl) rfl evX)
  obtain ⟨g, hg⟩ := peers_pick hok (by omega) (by omega) st hst F hF hv
  have hP := c_Peers hok st F false hg
  refine callVC_mk fnok23 hP rfl ?_
  simp (maxSteps := 4000000) only [↓reduceIte, Nat.reduceLT, Nat.reduceEqDiff, reduceCtorEq, Nat.reduceAdd, Nat.reduceMul, Int.reduceLE, Int.reduceLT, Int.reduceToNat, Nat.reduceLeDiff, Nat.reduceSub, Int.reduceEq, Nat.reduceBEq, List.replicate, List.set, evB, tyA]
  (repeat (with_reducible refine And.intro ?_ ?_; exact sdX))
  have hgp := prs_get (g := g) hpt
  have hx := hg (pt : Int)
  have hl3 : (prs (firstP g 3)).length = 3 := by rw [prs_len, firstP_len]
  generalize g (pt : Int) = x at *
  generalize prs (firstP g 3) = PP at *
  have hw := hx.wf
  have hnd := acts_nodup lb (pt : Int) lb.length
  rw [← hx.A] at hnd
  (repeat (first | refine awp_seq ?_ | refine awp_block ?_ | ((first | refine awp_skip ?_ | refine awp_exit ?_ | refine awp_reg ttok ?_ | (refine awp_draw ttok ?dr_calm ?_; (case dr_calm => decide +kernel)) | refine awp_condM ?_); simp (maxSteps := 4000000) only [↓reduceIte, Nat.reduceLT, Nat.reduceEqDiff, reduceCtorEq, Nat.reduceAdd, Nat.reduceMul, Int.reduceLE, Int.reduceLT, Int.reduceToNat, Nat.reduceLeDiff, Nat.reduceSub, Int.reduceEq, Nat.reduceBEq, List.replicate, List.set, evB, tyA, hCw, hptw, hgp, hl3, hcw, hsw]; (repeat (with_reducible refine And.intro ?_ ?_; exact sdX)); (with_reducible first | refine awp_id ?_ | refine id_call ?_ | refine id_and ?_ | refine id_ex ?_ | refine id_all ?_ | refine id_nat ?_ | refine id_le ?_))))
  have hal := hw.a
  have hCan := c_PCan x hw s
  have hFi := c_PFind x hw ((y1 : Int), (y2 : Int))
  have hTo := c_PTo x hw s ((y1 : Int), (y2 : Int))
  have hEn := c_PEnds x hw s
  have hkN := hw.n
  have hFl := hw.F
  have hbd := findA_bd x.A ((y1 : Int), (y2 : Int))
  have hfall := findA_all x.A ((y1 : Int), (y2 : Int))
  have hfa0 : findA [] ((y1 : Int), (y2 : Int)) = -1 := rfl
  have kx : ∀ v : Int, (v == v) = true := fun v => by simp
  have kxn : ∀ v : Nat, (((v : Nat) : Int) == (v : Int)) = true := fun v => by simp
  by_cases hin : 0 ≤ s ∧ s < (x.N.length : Int)
  · obtain ⟨n, hn⟩ := Int.eq_ofNat_of_zero_le hin.1
    rw [hn] at hin hCan hTo hEn hsw
    have hnk : n < x.N.length := by omega
    have e1 : decide ((n : Int) ≥ 0) = true := by simp
    have e2 : decide ((n : Int) < (x.N.length : Int)) = true := by simpa using hnk
    have hcl := canP_len x.N (n : Int) x.A.length
    have hct : List.take (canP x.N (n : Int) x.A.length).length (canP x.N (n : Int) x.A.length) = canP x.N (n : Int) x.A.length := List.take_length
    have hcat := fun (i : Nat) (h : i < x.A.length) => canP_at (N := x.N) (s := (n : Int)) h
    obtain ⟨r, hr⟩ : ∃ r, r = x.N.getD n [] := ⟨_, rfl⟩
    have hgN := iis_get hnk
    rw [← hr] at hgN
    have hrl := (hw.ok.get hnk).1
    rw [← hr, hx.L] at hrl
    have htd : ∀ i, i < x.A.length → toD x.N (n : Int) (i : Int) = r.getD i 0 := fun i h => by
      rw [toD_good hw.ok hnk (by rw [hx.L]; exact h), hr]
    have hsc : ∀ i, canP x.N (n : Int) (i + 1) = canP x.N (n : Int) i ++ if 0 ≤ toD x.N (n : Int) (i : Int) then [(i : Int)] else [] := fun i => rfl
    rw [hn]
    (repeat (first | refine awp_seq ?_ | refine awp_block ?_ | ((first | refine awp_skip ?_ | refine awp_exit ?_ | refine awp_reg ttok ?_ | (refine awp_draw ttok ?dr_calm ?_; (case dr_calm => decide +kernel)) | refine awp_condM ?_); simp (maxSteps := 4000000) only [↓reduceIte, Nat.reduceLT, Nat.reduceEqDiff, reduceCtorEq, Nat.reduceAdd, Nat.reduceMul, Int.reduceLE, Int.reduceLT, Int.reduceToNat, Nat.reduceLeDiff, Nat.reduceSub, Int.reduceEq, Nat.reduceBEq, List.replicate, List.set, evB, tyA, hsw, e1, e2, iis_len]; (repeat (with_reducible refine And.intro ?_ ?_; exact sdX)); (with_reducible first | refine awp_id ?_ | refine id_call ?_ | refine id_and ?_ | refine id_ex ?_ | refine id_all ?_ | refine id_nat ?_ | refine id_le ?_))))
    refine callVC_mk fnok25 hCan rfl ?_
    simp (maxSteps := 4000000) only [↓reduceIte, Nat.reduceLT, Nat.reduceEqDiff, reduceCtorEq, Nat.reduceAdd, Nat.reduceMul, Int.reduceLE, Int.reduceLT, Int.reduceToNat, Nat.reduceLeDiff, Nat.reduceSub, Int.reduceEq, Nat.reduceBEq, List.replicate, List.set, evB, tyA]
    (repeat (with_reducible refine And.intro ?_ ?_; exact sdX))
    refine awp_pure 14 (d := .own 109002 0 (canP x.N (n : Int) x.A.length).length) (d' := .sl false (ints (canP x.N (n : Int) x.A.length))) (ids := [109002]) (p := (canP x.N (n : Int) x.A.length).length ≤ (ints (canP x.N (n : Int) x.A.length)).length) evX (by simp (maxSteps := 4000000) only [↓reduceIte, Nat.reduceLT, Nat.reduceEqDiff, reduceCtorEq, Nat.reduceAdd, Nat.reduceMul, Int.reduceLE, Int.reduceLT, Int.reduceToNat, Nat.reduceLeDiff, Nat.reduceSub, Int.reduceEq, Nat.reduceBEq, List.replicate, List.set, evB, ints_take, hct]) (by rw [ints_len]; exact Nat.le_refl _) ?_
    (repeat (first | refine awp_seq ?_ | refine awp_block ?_ | ((first | refine awp_skip ?_ | refine awp_exit ?_ | refine awp_reg ttok ?_ | (refine awp_draw ttok ?dr_calm ?_; (case dr_calm => decide +kernel)) | refine awp_condM ?_); simp (maxSteps := 4000000) only [↓reduceIte, Nat.reduceLT, Nat.reduceEqDiff, reduceCtorEq, Nat.reduceAdd, Nat.reduceMul, Int.reduceLE, Int.reduceLT, Int.reduceToNat, Nat.reduceLeDiff, Nat.reduceSub, Int.reduceEq, Nat.reduceBEq, List.replicate, List.set, evB, tyA, hy1w, hy2w]; (repeat (with_reducible refine And.intro ?_ ?_; exact sdX)); (with_reducible first | refine awp_id ?_ | refine id_call ?_ | refine id_and ?_ | refine id_ex ?_ | refine id_all ?_ | refine id_nat ?_ | refine id_le ?_))))
    generalize hcan : canP x.N (n : Int) x.A.length = can at *
    refine awp_loop (X := Nat) (fun i => mkS 173 [(11, .ptr 6007 0 0), (12, i64 n), (13, bo true), (14, .sl false (ints can)), (15, i64 (canP x.N (n : Int) i).length), (16, .ptr 10007 0 0), (17, i64 (findA (x.A.take i) (y1, y2))), (18, i64 i)] [(6007, { sz := 6, rows := [prC x], flat := false }), (10007, { sz := 2, rows := [[i64 y1, i64 y2]], flat := false })]) (fun i => i ≤ x.A.length) (fun i => x.A.length - i) 0 (Nat.zero_le _) (mkS_le rfl ?_ ?_) ?_
    · simp (maxSteps := 4000000) only [↓reduceIte, Nat.reduceLT, Nat.reduceEqDiff, reduceCtorEq, Nat.reduceAdd, Nat.reduceMul, Int.reduceLE, Int.reduceLT, Int.reduceToNat, Nat.reduceLeDiff, Nat.reduceSub, Int.reduceEq, Nat.reduceBEq, List.replicate, List.set, evB, hfa0, canP, List.length_nil]
      try rfl
    · simp (maxSteps := 4000000) only [↓reduceIte, Nat.reduceLT, Nat.reduceEqDiff, reduceCtorEq, Nat.reduceAdd, Nat.reduceMul, Int.reduceLE, Int.reduceLT, Int.reduceToNat, Nat.reduceLeDiff, Nat.reduceSub, Int.reduceEq, Nat.reduceBEq, List.replicate, List.set, evB]
      try rfl
    · intro i hi
      by_cases hlt : i < x.A.length
      · have d1 : decide ((i : Int) < (x.A.length : Int)) = true := by simpa using hlt
        have hwi : IntKind.i64.wrap ((i : Int) + 1) = ((i + 1 : Nat) : Int) := i64_in (by omega) (by omega)
        have gi := duo_get hlt
        have hgr := ints_get (l := r) (i := i) (by omega)
        have hc1 := hsc i
        have hc2 := hcat i hlt
        rw [htd i hlt] at hc1 hc2
        have hcli := canP_len x.N (n : Int) i
        by_cases ht : 0 ≤ r.getD i 0
        · have t1 : decide (r.getD i 0 ≥ 0) = true := by simpa using ht
          rw [if_pos ht] at hc1
          obtain ⟨hq1, hq2⟩ := hc2 ht
          have hlen : (canP x.N (n : Int) (i + 1)).length = (canP x.N (n : Int) i).length + 1 := by rw [hc1]; simp
          obtain ⟨K, hK⟩ : ∃ K, K = (canP x.N (n : Int) i).length := ⟨_, rfl⟩
          rw [← hK] at hq1 hq2 hlen hcli
          have hgc := ints_get hq1
          rw [hq2] at hgc
          have g1 : decide ((K : Int) ≥ (can.length : Int)) = false := by simp; omega
          have kii : ((i : Int) != (i : Int)) = false := by simp
          have hwk : IntKind.i64.wrap ((K : Int) + 1) = ((K + 1 : Nat) : Int) := i64_in (by omega) (by omega)
          rw [← hK]
          by_cases he : x.A.getD i (0, 0) = ((y1 : Int), (y2 : Int))
          · have hfy := findA_yes hnd hlt he
            rw [he] at gi
            simp only at gi
            have k1 : ((y1 : Int) == (y1 : Int)) = true := by simp
            have k2 : ((y2 : Int) == (y2 : Int)) = true := by simp
            (repeat (first | refine awp_seq ?_ | refine awp_block ?_ | ((first | refine awp_skip ?_ | refine awp_exit ?_ | refine awp_reg ttok ?_ | (refine awp_draw ttok ?dr_calm ?_; (case dr_calm => decide +kernel)) | refine awp_condM ?_); simp (maxSteps := 4000000) only [↓reduceIte, Nat.reduceLT, Nat.reduceEqDiff, reduceCtorEq, Nat.reduceAdd, Nat.reduceMul, Int.reduceLE, Int.reduceLT, Int.reduceToNat, Nat.reduceLeDiff, Nat.reduceSub, Int.reduceEq, Nat.reduceBEq, List.replicate, List.set, evB, tyA, d1, iis_len, hgN, hgr, ints_len, hrl, t1, g1, hgc, kii, hwk, duo_len, gi, k1, k2, hwi]; (repeat (with_reducible refine And.intro ?_ ?_; exact sdX)); (with_reducible first | refine awp_id ?_ | refine id_call ?_ | refine id_and ?_ | refine id_ex ?_ | refine id_all ?_ | refine id_nat ?_ | refine id_le ?_))))
            refine ⟨i + 1, by omega, by omega, mkS_le rfl ?_ ?_⟩
            · simp (maxSteps := 4000000) only [↓reduceIte, Nat.reduceLT, Nat.reduceEqDiff, reduceCtorEq, Nat.reduceAdd, Nat.reduceMul, Int.reduceLE, Int.reduceLT, Int.reduceToNat, Nat.reduceLeDiff, Nat.reduceSub, Int.reduceEq, Nat.reduceBEq, List.replicate, List.set, evB, hfy, hlen]
            · exact evX
          · have hfn := findA_no hlt he
            generalize x.A.getD i (0, 0) = v at *
            by_cases h1 : v.1 = (y1 : Int)
            · have k1 : (v.1 == (y1 : Int)) = true := by simpa using h1
              have k2 : (v.2 == (y2 : Int)) = false := by
                rw [beq_eq_false_iff_ne]; intro q; exact he (by cases v; simp_all)
              (repeat (first | refine awp_seq ?_ | refine awp_block ?_ | ((first | refine awp_skip ?_ | refine awp_exit ?_ | refine awp_reg ttok ?_ | (refine awp_draw ttok ?dr_calm ?_; (case dr_calm => decide +kernel)) | refine awp_condM ?_); simp (maxSteps := 4000000) only [↓reduceIte, Nat.reduceLT, Nat.reduceEqDiff, reduceCtorEq, Nat.reduceAdd, Nat.reduceMul, Int.reduceLE, Int.reduceLT, Int.reduceToNat, Nat.reduceLeDiff, Nat.reduceSub, Int.reduceEq, Nat.reduceBEq, List.replicate, List.set, evB, tyA, d1, iis_len, hgN, hgr, ints_len, hrl, t1, g1, hgc, kii, hwk, duo_len, gi, k1, k2, hwi]; (repeat (with_reducible refine And.intro ?_ ?_; exact sdX)); (with_reducible first | refine awp_id ?_ | refine id_call ?_ | refine id_and ?_ | refine id_ex ?_ | refine id_all ?_ | refine id_nat ?_ | refine id_le ?_))))
              refine ⟨i + 1, by omega, by omega, mkS_le rfl ?_ ?_⟩
              · simp (maxSteps := 4000000) only [↓reduceIte, Nat.reduceLT, Nat.reduceEqDiff, reduceCtorEq, Nat.reduceAdd, Nat.reduceMul, Int.reduceLE, Int.reduceLT, Int.reduceToNat, Nat.reduceLeDiff, Nat.reduceSub, Int.reduceEq, Nat.reduceBEq, List.replicate, List.set, evB, hfn, hlen]
              · exact evX
            · have k1 : (v.1 == (y1 : Int)) = false := by simpa using h1
              (repeat (first | refine awp_seq ?_ | refine awp_block ?_ | ((first | refine awp_skip ?_ | refine awp_exit ?_ | refine awp_reg ttok ?_ | (refine awp_draw ttok ?dr_calm ?_; (case dr_calm => decide +kernel)) | refine awp_condM ?_); simp (maxSteps := 4000000) only [↓reduceIte, Nat.reduceLT, Nat.reduceEqDiff, reduceCtorEq, Nat.reduceAdd, Nat.reduceMul, Int.reduceLE, Int.reduceLT, Int.reduceToNat, Nat.reduceLeDiff, Nat.reduceSub, Int.reduceEq, Nat.reduceBEq, List.replicate, List.set, evB, tyA, d1, iis_len, hgN, hgr, ints_len, hrl, t1, g1, hgc, kii, hwk, duo_len, gi, k1, hwi]; (repeat (with_reducible refine And.intro ?_ ?_; exact sdX)); (with_reducible first | refine awp_id ?_ | refine id_call ?_ | refine id_and ?_ | refine id_ex ?_ | refine id_all ?_ | refine id_nat ?_ | refine id_le ?_))))
              refine ⟨i + 1, by omega, by omega, mkS_le rfl ?_ ?_⟩
              · simp (maxSteps := 4000000) only [↓reduceIte, Nat.reduceLT, Nat.reduceEqDiff, reduceCtorEq, Nat.reduceAdd, Nat.reduceMul, Int.reduceLE, Int.reduceLT, Int.reduceToNat, Nat.reduceLeDiff, Nat.reduceSub, Int.reduceEq, Nat.reduceBEq, List.replicate, List.set, evB, hfn, hlen]
              · exact evX
        · have t1 : decide (r.getD i 0 ≥ 0) = false := by simpa using ht
          rw [if_neg ht, List.append_nil] at hc1
          by_cases he : x.A.getD i (0, 0) = ((y1 : Int), (y2 : Int))
          · have hfy := findA_yes hnd hlt he
            rw [he] at gi
            simp only at gi
            have k1 : ((y1 : Int) == (y1 : Int)) = true := by simp
            have k2 : ((y2 : Int) == (y2 : Int)) = true := by simp
            (repeat (first | refine awp_seq ?_ | refine awp_block ?_ | ((first | refine awp_skip ?_ | refine awp_exit ?_ | refine awp_reg ttok ?_ | (refine awp_draw ttok ?dr_calm ?_; (case dr_calm => decide +kernel)) | refine awp_condM ?_); simp (maxSteps := 4000000) only [↓reduceIte, Nat.reduceLT, Nat.reduceEqDiff, reduceCtorEq, Nat.reduceAdd, Nat.reduceMul, Int.reduceLE, Int.reduceLT, Int.reduceToNat, Nat.reduceLeDiff, Nat.reduceSub, Int.reduceEq, Nat.reduceBEq, List.replicate, List.set, evB, tyA, d1, iis_len, hgN, hgr, ints_len, hrl, t1, duo_len, gi, k1, k2, hwi]; (repeat (with_reducible refine And.intro ?_ ?_; exact sdX)); (with_reducible first | refine awp_id ?_ | refine id_call ?_ | refine id_and ?_ | refine id_ex ?_ | refine id_all ?_ | refine id_nat ?_ | refine id_le ?_))))
            refine ⟨i + 1, by omega, by omega, mkS_le rfl ?_ ?_⟩
            · simp (maxSteps := 4000000) only [↓reduceIte, Nat.reduceLT, Nat.reduceEqDiff, reduceCtorEq, Nat.reduceAdd, Nat.reduceMul, Int.reduceLE, Int.reduceLT, Int.reduceToNat, Nat.reduceLeDiff, Nat.reduceSub, Int.reduceEq, Nat.reduceBEq, List.replicate, List.set, evB, hfy, hc1]
            · exact evX
          · have hfn := findA_no hlt he
            generalize x.A.getD i (0, 0) = v at *
            by_cases h1 : v.1 = (y1 : Int)
            · have k1 : (v.1 == (y1 : Int)) = true := by simpa using h1
              have k2 : (v.2 == (y2 : Int)) = false := by
                rw [beq_eq_false_iff_ne]; intro q; exact he (by cases v; simp_all)
              (repeat (first | refine awp_seq ?_ | refine awp_block ?_ | ((first | refine awp_skip ?_ | refine awp_exit ?_ | refine awp_reg ttok ?_ | (refine awp_draw ttok ?dr_calm ?_; (case dr_calm => decide +kernel)) | refine awp_condM ?_); simp (maxSteps := 4000000) only [↓reduceIte, Nat.reduceLT, Nat.reduceEqDiff, reduceCtorEq, Nat.reduceAdd, Nat.reduceMul, Int.reduceLE, Int.reduceLT, Int.reduceToNat, Nat.reduceLeDiff, Nat.reduceSub, Int.reduceEq, Nat.reduceBEq, List.replicate, List.set, evB, tyA, d1, iis_len, hgN, hgr, ints_len, hrl, t1, duo_len, gi, k1, k2, hwi]; (repeat (with_reducible refine And.intro ?_ ?_; exact sdX)); (with_reducible first | refine awp_id ?_ | refine id_call ?_ | refine id_and ?_ | refine id_ex ?_ | refine id_all ?_ | refine id_nat ?_ | refine id_le ?_))))
              refine ⟨i + 1, by omega, by omega, mkS_le rfl ?_ ?_⟩
              · simp (maxSteps := 4000000) only [↓reduceIte, Nat.reduceLT, Nat.reduceEqDiff, reduceCtorEq, Nat.reduceAdd, Nat.reduceMul, Int.reduceLE, Int.reduceLT, Int.reduceToNat, Nat.reduceLeDiff, Nat.reduceSub, Int.reduceEq, Nat.reduceBEq, List.replicate, List.set, evB, hfn, hc1]
              · exact evX
            · have k1 : (v.1 == (y1 : Int)) = false := by simpa using h1
              (repeat (first | refine awp_seq ?_ | refine awp_block ?_ | ((first | refine awp_skip ?_ | refine awp_exit ?_ | refine awp_reg ttok ?_ | (refine awp_draw ttok ?dr_calm ?_; (case dr_calm => decide +kernel)) | refine awp_condM ?_); simp (maxSteps := 4000000) only [↓reduceIte, Nat.reduceLT, Nat.reduceEqDiff, reduceCtorEq, Nat.reduceAdd, Nat.reduceMul, Int.reduceLE, Int.reduceLT, Int.reduceToNat, Nat.reduceLeDiff, Nat.reduceSub, Int.reduceEq, Nat.reduceBEq, List.replicate, List.set, evB, tyA, d1, iis_len, hgN, hgr, ints_len, hrl, t1, duo_len, gi, k1, hwi]; (repeat (with_reducible refine And.intro ?_ ?_; exact sdX)); (with_reducible first | refine awp_id ?_ | refine id_call ?_ | refine id_and ?_ | refine id_ex ?_ | refine id_all ?_ | refine id_nat ?_ | refine id_le ?_))))
              refine ⟨i + 1, by omega, by omega, mkS_le rfl ?_ ?_⟩
              · simp (maxSteps := 4000000) only [↓reduceIte, Nat.reduceLT, Nat.reduceEqDiff, reduceCtorEq, Nat.reduceAdd, Nat.reduceMul, Int.reduceLE, Int.reduceLT, Int.reduceToNat, Nat.reduceLeDiff, Nat.reduceSub, Int.reduceEq, Nat.reduceBEq, List.replicate, List.set, evB, hfn, hc1]
              · exact evX
      · have d1 : decide ((i : Int) < (x.A.length : Int)) = false := by simpa using hlt
        have hie : i = x.A.length := by omega
        subst hie
        have hmax : (if (0 : Int) > (n : Int) then (0 : Int) else (n : Int)) = (n : Int) := by split <;> omega
        have hmod : (n : Int).tmod (x.N.length : Int) = (n : Int) := Int.tmod_eq_of_lt (by omega) (by omega)
        have hgF := bos_get (l := x.F) (i := n) (by omega)
        have e0 : decide (0 ≤ (n : Int)) = true := by simp
        have kb : ∀ b : Bool, (b == b) = true := by decide
        rw [e0, Bool.true_and, Int.toNat_natCast] at hEn
        by_cases hf : 0 ≤ findA x.A ((y1 : Int), (y2 : Int))
        · obtain ⟨m, hm⟩ := Int.eq_ofNat_of_zero_le hf
          have hmL : m < x.A.length := by omega
          have f1 : decide ((m : Int) ≥ 0) = true := by simp
          have hgm := ints_get (l := r) (i := m) (by omega)
          rw [hm] at hFi hTo hfall
          rw [htd m hmL] at hTo
          (repeat (first | refine awp_seq ?_ | refine awp_block ?_ | ((first | refine awp_skip ?_ | refine awp_exit ?_ | refine awp_reg ttok ?_ | (refine awp_draw ttok ?dr_calm ?_; (case dr_calm => decide +kernel)) | refine awp_condM ?_); simp (maxSteps := 4000000) only [↓reduceIte, Nat.reduceLT, Nat.reduceEqDiff, reduceCtorEq, Nat.reduceAdd, Nat.reduceMul, Int.reduceLE, Int.reduceLT, Int.reduceToNat, Nat.reduceLeDiff, Nat.reduceSub, Int.reduceEq, Nat.reduceBEq, List.replicate, List.set, evB, tyA, d1, duo_len, hfall, hcan, f1, iis_len, hgN, hgm, ints_len, hrl]; (repeat (with_reducible refine And.intro ?_ ?_; exact sdX)); (with_reducible first | refine awp_id ?_ | refine id_call ?_ | refine id_and ?_ | refine id_ex ?_ | refine id_all ?_ | refine id_nat ?_ | refine id_le ?_))))
          refine awp_drawG ttok ((0, some []) :: (1, none) :: (2, none) :: (3, none) :: (4, none) :: (5, none) :: (6, none) :: (7, none) :: (8, none) :: (9, none) :: (11, none) :: (10, some [11]) :: (12, none) :: (13, none) :: (14, none) :: (15, none) :: (16, none) :: (17, none) :: (19, none) :: (18, some [19]) :: (20, none) :: (21, none) :: (22, none) :: (23, none) :: (24, none) :: (26, none) :: (25, some [26]) :: (27, none) :: (28, none) :: (29, none) :: (30, none) :: (31, none) :: (32, none) :: (33, none) :: (34, none) :: (35, none) :: (36, none) :: (37, none) :: (38, none) :: (39, none) :: (40, none) :: (41, none) :: (42, none) :: (43, none) :: []) ([]) ([]) (by decide +kernel) fun O hO => ?_; simp only [OpsAre, Nat.reduceAdd, and_true, List.toList_toArray, List.append_eq, List.cons_append, List.nil_append] at hO; simp (maxSteps := 4000000) only [↓reduceIte, Nat.reduceLT, Nat.reduceEqDiff, reduceCtorEq, Nat.reduceAdd, Nat.reduceMul, Int.reduceLE, Int.reduceLT, Int.reduceToNat, Nat.reduceLeDiff, Nat.reduceSub, Int.reduceEq, Nat.reduceBEq, List.replicate, List.set, evB, tyA, hO, ]; (repeat (with_reducible refine And.intro ?_ ?_; exact sdX))
          refine callVC_scal fnok24 c_awake24 rfl ?_
          simp (maxSteps := 4000000) only [↓reduceIte, Nat.reduceLT, Nat.reduceEqDiff, reduceCtorEq, Nat.reduceAdd, Nat.reduceMul, Int.reduceLE, Int.reduceLT, Int.reduceToNat, Nat.reduceLeDiff, Nat.reduceSub, Int.reduceEq, Nat.reduceBEq, List.replicate, List.set, evB, tyA, hO, kx, kxn, hcan, ints_len, hmax, hmod, hgF, bos_len, hFl, kb]
          (repeat (with_reducible refine And.intro ?_ ?_; exact sdX))
          refine callVC_scal fnok26 hFi rfl ?_
          simp (maxSteps := 4000000) only [↓reduceIte, Nat.reduceLT, Nat.reduceEqDiff, reduceCtorEq, Nat.reduceAdd, Nat.reduceMul, Int.reduceLE, Int.reduceLT, Int.reduceToNat, Nat.reduceLeDiff, Nat.reduceSub, Int.reduceEq, Nat.reduceBEq, List.replicate, List.set, evB, tyA, hO, kx, kxn, hcan, ints_len, hmax, hmod, hgF, bos_len, hFl, kb]
          (repeat (with_reducible refine And.intro ?_ ?_; exact sdX))
          refine callVC_scal fnok27 hTo rfl ?_
          simp (maxSteps := 4000000) only [↓reduceIte, Nat.reduceLT, Nat.reduceEqDiff, reduceCtorEq, Nat.reduceAdd, Nat.reduceMul, Int.reduceLE, Int.reduceLT, Int.reduceToNat, Nat.reduceLeDiff, Nat.reduceSub, Int.reduceEq, Nat.reduceBEq, List.replicate, List.set, evB, tyA, hO, kx, kxn, hcan, ints_len, hmax, hmod, hgF, bos_len, hFl, kb]
          (repeat (with_reducible refine And.intro ?_ ?_; exact sdX))
          refine callVC_scal fnok28 hEn rfl ?_
          simp (maxSteps := 4000000) only [↓reduceIte, Nat.reduceLT, Nat.reduceEqDiff, reduceCtorEq, Nat.reduceAdd, Nat.reduceMul, Int.reduceLE, Int.reduceLT, Int.reduceToNat, Nat.reduceLeDiff, Nat.reduceSub, Int.reduceEq, Nat.reduceBEq, List.replicate, List.set, evB, tyA, hO, kx, kxn, hcan, ints_len, hmax, hmod, hgF, bos_len, hFl, kb]
          (repeat (with_reducible refine And.intro ?_ ?_; exact sdX))
          (repeat (first | refine awp_seq ?_ | refine awp_block ?_ | ((first | refine awp_skip ?_ | refine awp_exit ?_ | refine awp_reg ttok ?_ | (refine awp_draw ttok ?dr_calm ?_; (case dr_calm => decide +kernel)) | refine awp_condM ?_); simp (maxSteps := 4000000) only [↓reduceIte, Nat.reduceLT, Nat.reduceEqDiff, reduceCtorEq, Nat.reduceAdd, Nat.reduceMul, Int.reduceLE, Int.reduceLT, Int.reduceToNat, Nat.reduceLeDiff, Nat.reduceSub, Int.reduceEq, Nat.reduceBEq, List.replicate, List.set, evB, tyA, kx, kxn, hcan, ints_len, hmax, hmod, hgF, bos_len, hFl, kb]; (repeat (with_reducible refine And.intro ?_ ?_; exact sdX)); (with_reducible first | refine awp_id ?_ | refine id_call ?_ | refine id_and ?_ | refine id_ex ?_ | refine id_all ?_ | refine id_nat ?_ | refine id_le ?_))))
          exact awp_ret (ends_plain (.inr rfl) rfl evX)
        · have hfm : findA x.A ((y1 : Int), (y2 : Int)) = -1 := by omega
          have f1 : decide ((-1 : Int) ≥ 0) = false := rfl
          rw [hfm] at hFi hTo hfall
          rw [toD_bad1 x.N (n : Int) (-1) (.inr (.inr (by decide)))] at hTo
          (repeat (first | refine awp_seq ?_ | refine awp_block ?_ | ((first | refine awp_skip ?_ | refine awp_exit ?_ | refine awp_reg ttok ?_ | (refine awp_draw ttok ?dr_calm ?_; (case dr_calm => decide +kernel)) | refine awp_condM ?_); simp (maxSteps := 4000000) only [↓reduceIte, Nat.reduceLT, Nat.reduceEqDiff, reduceCtorEq, Nat.reduceAdd, Nat.reduceMul, Int.reduceLE, Int.reduceLT, Int.reduceToNat, Nat.reduceLeDiff, Nat.reduceSub, Int.reduceEq, Nat.reduceBEq, List.replicate, List.set, evB, tyA, d1, duo_len, hfall, hcan, f1]; (repeat (with_reducible refine And.intro ?_ ?_; exact sdX)); (with_reducible first | refine awp_id ?_ | refine id_call ?_ | refine id_and ?_ | refine id_ex ?_ | refine id_all ?_ | refine id_nat ?_ | refine id_le ?_))))
          refine awp_drawG ttok ((0, some []) :: (1, none) :: (2, none) :: (3, none) :: (4, none) :: (5, none) :: (6, none) :: (7, none) :: (8, none) :: (9, none) :: (11, none) :: (10, some [11]) :: (12, none) :: (13, none) :: (14, none) :: (15, none) :: (16, none) :: (17, none) :: (19, none) :: (18, some [19]) :: (20, none) :: (21, none) :: (22, none) :: (23, none) :: (24, none) :: (26, none) :: (25, some [26]) :: (27, none) :: (28, none) :: (29, none) :: (30, none) :: (31, none) :: (32, none) :: (33, none) :: (34, none) :: (35, none) :: (36, none) :: (37, none) :: (38, none) :: (39, none) :: (40, none) :: (41, none) :: (42, none) :: (43, none) :: []) ([]) ([]) (by decide +kernel) fun O hO => ?_; simp only [OpsAre, Nat.reduceAdd, and_true, List.toList_toArray, List.append_eq, List.cons_append, List.nil_append] at hO; simp (maxSteps := 4000000) only [↓reduceIte, Nat.reduceLT, Nat.reduceEqDiff, reduceCtorEq, Nat.reduceAdd, Nat.reduceMul, Int.reduceLE, Int.reduceLT, Int.reduceToNat, Nat.reduceLeDiff, Nat.reduceSub, Int.reduceEq, Nat.reduceBEq, List.replicate, List.set, evB, tyA, hO, ]; (repeat (with_reducible refine And.intro ?_ ?_; exact sdX))
          refine callVC_scal fnok24 c_awake24 rfl ?_
          simp (maxSteps := 4000000) only [↓reduceIte, Nat.reduceLT, Nat.reduceEqDiff, reduceCtorEq, Nat.reduceAdd, Nat.reduceMul, Int.reduceLE, Int.reduceLT, Int.reduceToNat, Nat.reduceLeDiff, Nat.reduceSub, Int.reduceEq, Nat.reduceBEq, List.replicate, List.set, evB, tyA, hO, kx, kxn, hcan, ints_len, hmax, hmod, hgF, bos_len, hFl, kb]
          (repeat (with_reducible refine And.intro ?_ ?_; exact sdX))
          refine callVC_scal fnok26 hFi rfl ?_
          simp (maxSteps := 4000000) only [↓reduceIte, Nat.reduceLT, Nat.reduceEqDiff, reduceCtorEq, Nat.reduceAdd, Nat.reduceMul, Int.reduceLE, Int.reduceLT, Int.reduceToNat, Nat.reduceLeDiff, Nat.reduceSub, Int.reduceEq, Nat.reduceBEq, List.replicate, List.set, evB, tyA, hO, kx, kxn, hcan, ints_len, hmax, hmod, hgF, bos_len, hFl, kb]
          (repeat (with_reducible refine And.intro ?_ ?_; exact sdX))
          refine callVC_scal fnok27 hTo rfl ?_
          simp (maxSteps := 4000000) only [↓reduceIte, Nat.reduceLT, Nat.reduceEqDiff, reduceCtorEq, Nat.reduceAdd, Nat.reduceMul, Int.reduceLE, Int.reduceLT, Int.reduceToNat, Nat.reduceLeDiff, Nat.reduceSub, Int.reduceEq, Nat.reduceBEq, List.replicate, List.set, evB, tyA, hO, kx, kxn, hcan, ints_len, hmax, hmod, hgF, bos_len, hFl, kb]
          (repeat (with_reducible refine And.intro ?_ ?_; exact sdX))
          refine callVC_scal fnok28 hEn rfl ?_
          simp (maxSteps := 4000000) only [↓reduceIte, Nat.reduceLT, Nat.reduceEqDiff, reduceCtorEq, Nat.reduceAdd, Nat.reduceMul, Int.reduceLE, Int.reduceLT, Int.reduceToNat, Nat.reduceLeDiff, Nat.reduceSub, Int.reduceEq, Nat.reduceBEq, List.replicate, List.set, evB, tyA, hO, kx, kxn, hcan, ints_len, hmax, hmod, hgF, bos_len, hFl, kb]
          (repeat (with_reducible refine And.intro ?_ ?_; exact sdX))
          (repeat (first | refine awp_seq ?_ | refine awp_block ?_ | ((first | refine awp_skip ?_ | refine awp_exit ?_ | refine awp_reg ttok ?_ | (refine awp_draw ttok ?dr_calm ?_; (case dr_calm => decide +kernel)) | refine awp_condM ?_); simp (maxSteps := 4000000) only [↓reduceIte, Nat.reduceLT, Nat.reduceEqDiff, reduceCtorEq, Nat.reduceAdd, Nat.reduceMul, Int.reduceLE, Int.reduceLT, Int.reduceToNat, Nat.reduceLeDiff, Nat.reduceSub, Int.reduceEq, Nat.reduceBEq, List.replicate, List.set, evB, tyA, kx, kxn, hcan, ints_len, hmax, hmod, hgF, bos_len, hFl, kb]; (repeat (with_reducible refine And.intro ?_ ?_; exact sdX)); (with_reducible first | refine awp_id ?_ | refine id_call ?_ | refine id_and ?_ | refine id_ex ?_ | refine id_all ?_ | refine id_nat ?_ | refine id_le ?_))))
          exact awp_ret (ends_plain (.inr rfl) rfl evX)
  · have hbad : s < 0 ∨ (x.N.length : Int) ≤ s := by
      rcases Int.lt_or_le s 0 with q | q
      · exact .inl q
      · exact .inr (by omega)
    have htd : ∀ a : Int, toD x.N s a = -1 := fun a => toD_bad1 x.N s a (by
      rcases hbad with q | q
      · exact .inl q
      · exact .inr (.inl q))
    rw [canP_none (fun a => htd a)] at hCan
    rw [htd] at hTo
    have hbF : (decide (0 ≤ s) && x.F.getD s.toNat false) = false := by
      rcases hbad with q | q
      · rw [decide_eq_false (by omega), Bool.false_and]
      · have : x.F.getD s.toNat false = false := by simp [List.getD, List.getElem?_eq_none (show x.F.length ≤ s.toNat by omega)]
        rw [this, Bool.and_false]
    rw [hbF] at hEn
    have hl0 : (ints []).length = 0 := rfl
    obtain ⟨b1, e1⟩ : ∃ b, decide (s ≥ 0) = b := ⟨_, rfl⟩
    obtain ⟨b2, e2⟩ : ∃ b, decide (s < (x.N.length : Int)) = b := ⟨_, rfl⟩
    have hbb : (b1 && b2) = false := by
      rw [← e1, ← e2]
      rcases hbad with q | q
      · rw [decide_eq_false (show ¬ s ≥ 0 by omega), Bool.false_and]
      · rw [decide_eq_false (show ¬ s < (x.N.length : Int) by omega), Bool.and_false]
    have kz : (((([] : List Int).length : Nat) : Int)) = 0 := rfl
    have hct0 : List.take ([] : List Int).length ([] : List Int) = [] := rfl
    cases b1 <;> cases b2
    case true.true => cases hbb
    all_goals
      (repeat (first | refine awp_seq ?_ | refine awp_block ?_ | ((first | refine awp_skip ?_ | refine awp_exit ?_ | refine awp_reg ttok ?_ | (refine awp_draw ttok ?dr_calm ?_; (case dr_calm => decide +kernel)) | refine awp_condM ?_); simp (maxSteps := 4000000) only [↓reduceIte, Nat.reduceLT, Nat.reduceEqDiff, reduceCtorEq, Nat.reduceAdd, Nat.reduceMul, Int.reduceLE, Int.reduceLT, Int.reduceToNat, Nat.reduceLeDiff, Nat.reduceSub, Int.reduceEq, Nat.reduceBEq, List.replicate, List.set, evB, tyA, hsw, e1, e2, iis_len]; (repeat (with_reducible refine And.intro ?_ ?_; exact sdX)); (with_reducible first | refine awp_id ?_ | refine id_call ?_ | refine id_and ?_ | refine id_ex ?_ | refine id_all ?_ | refine id_nat ?_ | refine id_le ?_))))
      refine callVC_mk fnok25 hCan rfl ?_
      simp (maxSteps := 4000000) only [↓reduceIte, Nat.reduceLT, Nat.reduceEqDiff, reduceCtorEq, Nat.reduceAdd, Nat.reduceMul, Int.reduceLE, Int.reduceLT, Int.reduceToNat, Nat.reduceLeDiff, Nat.reduceSub, Int.reduceEq, Nat.reduceBEq, List.replicate, List.set, evB, tyA]
      (repeat (with_reducible refine And.intro ?_ ?_; exact sdX))
      (repeat (first | refine awp_seq ?_ | refine awp_block ?_ | ((first | refine awp_skip ?_ | refine awp_exit ?_ | refine awp_reg ttok ?_ | (refine awp_draw ttok ?dr_calm ?_; (case dr_calm => decide +kernel)) | refine awp_condM ?_); simp (maxSteps := 4000000) only [↓reduceIte, Nat.reduceLT, Nat.reduceEqDiff, reduceCtorEq, Nat.reduceAdd, Nat.reduceMul, Int.reduceLE, Int.reduceLT, Int.reduceToNat, Nat.reduceLeDiff, Nat.reduceSub, Int.reduceEq, Nat.reduceBEq, List.replicate, List.set, evB, tyA, hy1w, hy2w]; (repeat (with_reducible refine And.intro ?_ ?_; exact sdX)); (with_reducible first | refine awp_id ?_ | refine id_call ?_ | refine id_and ?_ | refine id_ex ?_ | refine id_all ?_ | refine id_nat ?_ | refine id_le ?_))))
      refine awp_loop (X := Nat) (fun i => mkS 173 [(11, .ptr 6007 0 0), (12, i64 s), (13, bo false), (14, .own 109002 0 0), (15, i64 0), (16, .ptr 10007 0 0), (17, i64 (findA (x.A.take i) (y1, y2))), (18, i64 i)] [(6007, { sz := 6, rows := [prC x], flat := false }), (10007, { sz := 2, rows := [[i64 y1, i64 y2]], flat := false }), (109002, { sz := 1, rows := ints [] })]) (fun i => i ≤ x.A.length) (fun i => x.A.length - i) 0 (Nat.zero_le _) (mkS_le rfl ?_ ?_) ?_
      · simp (maxSteps := 4000000) only [↓reduceIte, Nat.reduceLT, Nat.reduceEqDiff, reduceCtorEq, Nat.reduceAdd, Nat.reduceMul, Int.reduceLE, Int.reduceLT, Int.reduceToNat, Nat.reduceLeDiff, Nat.reduceSub, Int.reduceEq, Nat.reduceBEq, List.replicate, List.set, evB, hfa0, List.length_nil]
        try rfl
      · simp (maxSteps := 4000000) only [↓reduceIte, Nat.reduceLT, Nat.reduceEqDiff, reduceCtorEq, Nat.reduceAdd, Nat.reduceMul, Int.reduceLE, Int.reduceLT, Int.reduceToNat, Nat.reduceLeDiff, Nat.reduceSub, Int.reduceEq, Nat.reduceBEq, List.replicate, List.set, evB]
        try rfl
      · intro i hi
        by_cases hlt : i < x.A.length
        · have d1 : decide ((i : Int) < (x.A.length : Int)) = true := by simpa using hlt
          have hwi : IntKind.i64.wrap ((i : Int) + 1) = ((i + 1 : Nat) : Int) := i64_in (by omega) (by omega)
          have gi := duo_get hlt
          by_cases he : x.A.getD i (0, 0) = ((y1 : Int), (y2 : Int))
          · have hfy := findA_yes hnd hlt he
            rw [he] at gi
            simp only at gi
            have k1 : ((y1 : Int) == (y1 : Int)) = true := by simp
            have k2 : ((y2 : Int) == (y2 : Int)) = true := by simp
            (repeat (first | refine awp_seq ?_ | refine awp_block ?_ | ((first | refine awp_skip ?_ | refine awp_exit ?_ | refine awp_reg ttok ?_ | (refine awp_draw ttok ?dr_calm ?_; (case dr_calm => decide +kernel)) | refine awp_condM ?_); simp (maxSteps := 4000000) only [↓reduceIte, Nat.reduceLT, Nat.reduceEqDiff, reduceCtorEq, Nat.reduceAdd, Nat.reduceMul, Int.reduceLE, Int.reduceLT, Int.reduceToNat, Nat.reduceLeDiff, Nat.reduceSub, Int.reduceEq, Nat.reduceBEq, List.replicate, List.set, evB, tyA, d1, duo_len, gi, k1, k2, hwi]; (repeat (with_reducible refine And.intro ?_ ?_; exact sdX)); (with_reducible first | refine awp_id ?_ | refine id_call ?_ | refine id_and ?_ | refine id_ex ?_ | refine id_all ?_ | refine id_nat ?_ | refine id_le ?_))))
            refine ⟨i + 1, by omega, by omega, mkS_le rfl ?_ ?_⟩
            · simp (maxSteps := 4000000) only [↓reduceIte, Nat.reduceLT, Nat.reduceEqDiff, reduceCtorEq, Nat.reduceAdd, Nat.reduceMul, Int.reduceLE, Int.reduceLT, Int.reduceToNat, Nat.reduceLeDiff, Nat.reduceSub, Int.reduceEq, Nat.reduceBEq, List.replicate, List.set, evB, hfy]
            · exact evX
          · have hfn := findA_no hlt he
            generalize x.A.getD i (0, 0) = v at *
            by_cases h1 : v.1 = (y1 : Int)
            · have k1 : (v.1 == (y1 : Int)) = true := by simpa using h1
              have k2 : (v.2 == (y2 : Int)) = false := by
                rw [beq_eq_false_iff_ne]; intro q; exact he (by cases v; simp_all)
              (repeat (first | refine awp_seq ?_ | refine awp_block ?_ | ((first | refine awp_skip ?_ | refine awp_exit ?_ | refine awp_reg ttok ?_ | (refine awp_draw ttok ?dr_calm ?_; (case dr_calm => decide +kernel)) | refine awp_condM ?_); simp (maxSteps := 4000000) only [↓reduceIte, Nat.reduceLT, Nat.reduceEqDiff, reduceCtorEq, Nat.reduceAdd, Nat.reduceMul, Int.reduceLE, Int.reduceLT, Int.reduceToNat, Nat.reduceLeDiff, Nat.reduceSub, Int.reduceEq, Nat.reduceBEq, List.replicate, List.set, evB, tyA, d1, duo_len, gi, k1, k2, hwi]; (repeat (with_reducible refine And.intro ?_ ?_; exact sdX)); (with_reducible first | refine awp_id ?_ | refine id_call ?_ | refine id_and ?_ | refine id_ex ?_ | refine id_all ?_ | refine id_nat ?_ | refine id_le ?_))))
              refine ⟨i + 1, by omega, by omega, mkS_le rfl ?_ ?_⟩
              · simp (maxSteps := 4000000) only [↓reduceIte, Nat.reduceLT, Nat.reduceEqDiff, reduceCtorEq, Nat.reduceAdd, Nat.reduceMul, Int.reduceLE, Int.reduceLT, Int.reduceToNat, Nat.reduceLeDiff, Nat.reduceSub, Int.reduceEq, Nat.reduceBEq, List.replicate, List.set, evB, hfn]
              · exact evX
            · have k1 : (v.1 == (y1 : Int)) = false := by simpa using h1
              (repeat (first | refine awp_seq ?_ | refine awp_block ?_ | ((first | refine awp_skip ?_ | refine awp_exit ?_ | refine awp_reg ttok ?_ | (refine awp_draw ttok ?dr_calm ?_; (case dr_calm => decide +kernel)) | refine awp_condM ?_); simp (maxSteps := 4000000) only [↓reduceIte, Nat.reduceLT, Nat.reduceEqDiff, reduceCtorEq, Nat.reduceAdd, Nat.reduceMul, Int.reduceLE, Int.reduceLT, Int.reduceToNat, Nat.reduceLeDiff, Nat.reduceSub, Int.reduceEq, Nat.reduceBEq, List.replicate, List.set, evB, tyA, d1, duo_len, gi, k1, hwi]; (repeat (with_reducible refine And.intro ?_ ?_; exact sdX)); (with_reducible first | refine awp_id ?_ | refine id_call ?_ | refine id_and ?_ | refine id_ex ?_ | refine id_all ?_ | refine id_nat ?_ | refine id_le ?_))))
              refine ⟨i + 1, by omega, by omega, mkS_le rfl ?_ ?_⟩
              · simp (maxSteps := 4000000) only [↓reduceIte, Nat.reduceLT, Nat.reduceEqDiff, reduceCtorEq, Nat.reduceAdd, Nat.reduceMul, Int.reduceLE, Int.reduceLT, Int.reduceToNat, Nat.reduceLeDiff, Nat.reduceSub, Int.reduceEq, Nat.reduceBEq, List.replicate, List.set, evB, hfn]
              · exact evX
        · have d1 : decide ((i : Int) < (x.A.length : Int)) = false := by simpa using hlt
          have hie : i = x.A.length := by omega
          subst hie
          have k00 : ((0 : Int) == ((0 : Nat) : Int)) = true := rfl
          (repeat (first | refine awp_seq ?_ | refine awp_block ?_ | ((first | refine awp_skip ?_ | refine awp_exit ?_ | refine awp_reg ttok ?_ | (refine awp_draw ttok ?dr_calm ?_; (case dr_calm => decide +kernel)) | refine awp_condM ?_); simp (maxSteps := 4000000) only [↓reduceIte, Nat.reduceLT, Nat.reduceEqDiff, reduceCtorEq, Nat.reduceAdd, Nat.reduceMul, Int.reduceLE, Int.reduceLT, Int.reduceToNat, Nat.reduceLeDiff, Nat.reduceSub, Int.reduceEq, Nat.reduceBEq, List.replicate, List.set, evB, tyA, d1, duo_len, hfall]; (repeat (with_reducible refine And.intro ?_ ?_; exact sdX)); (with_reducible first | refine awp_id ?_ | refine id_call ?_ | refine id_and ?_ | refine id_ex ?_ | refine id_all ?_ | refine id_nat ?_ | refine id_le ?_))))
          refine awp_drawG ttok ((0, some []) :: (1, none) :: (2, none) :: (3, none) :: (4, none) :: (5, none) :: (6, none) :: (7, none) :: (8, none) :: (9, none) :: (11, none) :: (10, some [11]) :: (12, none) :: (13, none) :: (14, none) :: (15, none) :: (16, none) :: (17, none) :: (19, none) :: (18, some [19]) :: (20, none) :: (21, none) :: (22, none) :: (23, none) :: (24, none) :: (26, none) :: (25, some [26]) :: (27, none) :: (28, none) :: (29, none) :: (30, none) :: (31, none) :: (32, none) :: (33, none) :: (34, none) :: (35, none) :: (36, none) :: (37, none) :: (38, none) :: (39, none) :: (40, none) :: (41, none) :: (42, none) :: (43, none) :: []) ([]) ([]) (by decide +kernel) fun O hO => ?_; simp only [OpsAre, Nat.reduceAdd, and_true, List.toList_toArray, List.append_eq, List.cons_append, List.nil_append] at hO; simp (maxSteps := 4000000) only [↓reduceIte, Nat.reduceLT, Nat.reduceEqDiff, reduceCtorEq, Nat.reduceAdd, Nat.reduceMul, Int.reduceLE, Int.reduceLT, Int.reduceToNat, Nat.reduceLeDiff, Nat.reduceSub, Int.reduceEq, Nat.reduceBEq, List.replicate, List.set, evB, tyA, hO, ]; (repeat (with_reducible refine And.intro ?_ ?_; exact sdX))
          refine callVC_scal fnok24 c_awake24 rfl ?_
          simp (maxSteps := 4000000) only [↓reduceIte, Nat.reduceLT, Nat.reduceEqDiff, reduceCtorEq, Nat.reduceAdd, Nat.reduceMul, Int.reduceLE, Int.reduceLT, Int.reduceToNat, Nat.reduceLeDiff, Nat.reduceSub, Int.reduceEq, Nat.reduceBEq, List.replicate, List.set, evB, tyA, hO, kx, k00]
          (repeat (with_reducible refine And.intro ?_ ?_; exact sdX))
          refine callVC_scal fnok26 hFi rfl ?_
          simp (maxSteps := 4000000) only [↓reduceIte, Nat.reduceLT, Nat.reduceEqDiff, reduceCtorEq, Nat.reduceAdd, Nat.reduceMul, Int.reduceLE, Int.reduceLT, Int.reduceToNat, Nat.reduceLeDiff, Nat.reduceSub, Int.reduceEq, Nat.reduceBEq, List.replicate, List.set, evB, tyA, hO, kx, hfall]
          (repeat (with_reducible refine And.intro ?_ ?_; exact sdX))
          refine callVC_scal fnok27 hTo rfl ?_
          simp (maxSteps := 4000000) only [↓reduceIte, Nat.reduceLT, Nat.reduceEqDiff, reduceCtorEq, Nat.reduceAdd, Nat.reduceMul, Int.reduceLE, Int.reduceLT, Int.reduceToNat, Nat.reduceLeDiff, Nat.reduceSub, Int.reduceEq, Nat.reduceBEq, List.replicate, List.set, evB, tyA, hO, kx]
          (repeat (with_reducible refine And.intro ?_ ?_; exact sdX))
          refine callVC_scal fnok28 hEn rfl ?_
          simp (maxSteps := 4000000) only [↓reduceIte, Nat.reduceLT, Nat.reduceEqDiff, reduceCtorEq, Nat.reduceAdd, Nat.reduceMul, Int.reduceLE, Int.reduceLT, Int.reduceToNat, Nat.reduceLeDiff, Nat.reduceSub, Int.reduceEq, Nat.reduceBEq, List.replicate, List.set, evB, tyA, hO, kx]
          (repeat (with_reducible refine And.intro ?_ ?_; exact sdX))
          (repeat (first | refine awp_seq ?_ | refine awp_block ?_ | ((first | refine awp_skip ?_ | refine awp_exit ?_ | refine awp_reg ttok ?_ | (refine awp_draw ttok ?dr_calm ?_; (case dr_calm => decide +kernel)) | refine awp_condM ?_); simp (maxSteps := 4000000) only [↓reduceIte, Nat.reduceLT, Nat.reduceEqDiff, reduceCtorEq, Nat.reduceAdd, Nat.reduceMul, Int.reduceLE, Int.reduceLT, Int.reduceToNat, Nat.reduceLeDiff, Nat.reduceSub, Int.reduceEq, Nat.reduceBEq, List.replicate, List.set, evB, tyA, kx]; (repeat (with_reducible refine And.intro ?_ ?_; exact sdX)); (with_reducible first | refine awp_id ?_ | refine id_call ?_ | refine id_and ?_ | refine id_ex ?_ | refine id_all ?_ | refine id_nat ?_ | refine id_le ?_))))
          exact awp_ret (ends_plain (.inr rfl) rfl evX)
end Go.Proofs.Ytcpipfodedfpkaa
namespace Go.Proofs.Ytcpipfodedfpkaa.peerCan
open Go.ChangeShapes Go.WideShapes Go.ChangeAt Go.RowKit
open Go.Ab
theorem own : ownKnob Try.prog.godebug = none := by kernel_rfl
theorem laidOut : laidOutB Try.prog = true := by kernel_rfl
set_option maxRecDepth 100000 in
theorem lifted (os : Os) (started : os.Started) (H : Type) (enc : TypeId × Value → H) :
    ReturnsInHanded {} Try.checked os 5 .any (Rows.peerCanSpec.pre6 enc Try.prog Try.f5 Rows.peerCanRow.domain false) (Rows.peerCanSpec.post enc Try.prog Try.f5 false true false false) := by
  refine returnsInHanded_of_change (C := Try.checked) own started (by kernel_rfl) Try.func5
    (ChangeSpec.witness6 (enc := enc) (C := Try.checked) false ⟨#[], #[.slice none 0 0, .agg #[.int .i64 0, .int .i64 0, .int .i64 0], .agg #[.int .i64 0, .int .i64 0]], []⟩ 8 (by kernel_rfl) (by kernel_rfl) (by kernel_rfl) (by kernel_rfl)) ?_
  intro W base args ds gs before hval0 hW hcnd _
  have hval : ∀ (j : Nat) t v, Try.f5.params[j]? = some t → args[j]? = some v → Value.okWide Try.prog W .any base t v := hval0
  have hW' := hW
  obtain ⟨p, q, hA0, hV, rfl, hfz, hnd⟩ := hW
  have hA : DataW.TrodAll enc Try.prog W 0 (fun _ => true) true Try.f5.params.toList args.toList ds p := hA0
  rw [Try.params5] at hA hval
  obtain ⟨v0, vs0, d0, ds0, p0, q0, hargs, rfl, rfl, k0, r0⟩ := trodAll_cons hA
  obtain ⟨v1, vs1, d1, ds1, p1, q1, rfl, rfl, rfl, k1, r1⟩ := trodAll_cons r0
  obtain ⟨v2, vs2, d2, ds2, p2, q2, rfl, rfl, rfl, k2, r2⟩ := trodAll_cons r1
  obtain ⟨rfl, rfl, rfl⟩ := trodAll_nil r2
  obtain rfl : args = #[v0, v1, v2] := by cases args; simp_all
  obtain ⟨rfl, rfl⟩ := trodVars_none hV
  obtain ⟨a0, h0, e0⟩ := opensArg_slice Try.underlying22 (opens_slice Try.underlying22 (opens_arr3i Try.underlying45 (by kernel_rfl) (by kernel_rfl) Try.underlying3) (fun a => by kernel_rfl) (by decide +kernel)) H enc W base v0 d0 p0 (hval 0 _ v0 rfl rfl) k0
  obtain ⟨a1, h1, e1⟩ := opensArg_agg Try.underlying45 rfl (opens_arr3i Try.underlying45 (by kernel_rfl) (by kernel_rfl) Try.underlying3) H enc W base v1 d1 p1 (hval 1 _ v1 rfl rfl) k1
  obtain ⟨a2, h2, e2⟩ := opensArg_agg Try.underlying59 rfl (opens_struct2 Try.underlying59 (by kernel_rfl) rfl rfl (by kernel_rfl) (by kernel_rfl) (opens_i64 Try.underlying3) (opens_i64 Try.underlying3)) H enc W base v2 d2 p2 (hval 2 _ v2 rfl rfl) k2
  refine (law_walk (c_PeerCanL false a0 a1.1 a1.2.1 a1.2.2 a2.1 a2.2 h0.1) (vs := [v0, v1, v2]) ⟨e0, e1, e2, trivial⟩).mono fun e W' ⟨he, bel⟩ => ?_
  subst he
  exact ⟨_, rfl, law_end hW' rfl bel rfl rfl rfl rfl Try.underlying4 laidOut (by kernel_rfl)⟩
theorem proved : Rows.PeerCanSaid :=
  OpenClaim.holds_of_wide 5 Try.f5 rfl rfl rfl rfl rfl rfl rfl ⟨rfl, rfl, rfl, rfl, rfl⟩ rfl rfl rfl rfl rfl (by kernel_rfl) Try.func5 (by kernel_rfl)
    (of_decide_eq_true (by kernel_rfl)) (by unfold Func.isWrapper; first | (rw [if_pos (by decide +kernel)]; kernel_rfl) | (rw [if_neg (by decide +kernel)]; exact ⟨rfl, rfl⟩))
    (fun os started H enc _ => lifted os started H enc)
#print axioms proved
end Go.Proofs.Ytcpipfodedfpkaa.peerCan
