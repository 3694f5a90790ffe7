/-
  The contract of mend.Format.
-/
import Derived.Test.YtmfonlkigjpjcaaMdFi
import Derived.Test.YtmfonlkigjpjcaaSnAny
namespace Go.Proofs.Ytmfonlkigjpjcaa
open Go.Ab
set_option linter.unusedSimpArgs false
set_option linter.unusedVariables false

theorem planW_ok {A : Nat} (hA : A ≤ 1) (G : BitVec 32) {P : List UInt8} (hP : (frameOf P).length ≤ 992) : ∀ x ∈ planW A G P, x.1 < 64 ∧ x.2.length = 32 := by
  have hM := mz_len hP
  intro x hx
  rcases List.mem_append.1 hx with h | h
  · obtain ⟨j, hj, rfl⟩ := List.mem_map.1 h
    have := List.mem_range.1 hj
    exact ⟨by simp only; omega, blkB_len hM (by omega)⟩
  · rw [List.mem_singleton.1 h]
    exact ⟨by simp only; omega, headB_len G⟩
theorem blks_ok {A : Nat} (hA : A ≤ 1) {M : List UInt8} (hM : M.length = 992) {fr cnt : Nat} (h : fr + cnt ≤ 31) : ∀ x ∈ blks A M fr cnt, x.1 < 64 ∧ x.2.length = 32 := by
  intro x hx
  obtain ⟨j, hj, rfl⟩ := List.mem_map.1 hx
  have := List.mem_range.1 hj
  exact ⟨by simp only; omega, blkB_len hM (by omega)⟩

theorem zer_dsk : List.replicate 2048 (0 : UInt8) = dsk (zer 32) (zer 992) (zer 32) (zer 992) := by
  simp only [dsk, zer, List.replicate_append_replicate]
theorem zer_ok : DOk (zer 32) (zer 992) (zer 32) (zer 992) := ⟨zer_len _, zer_len _, zer_len _, zer_len _⟩

/-- A disk that begins with an image. -/
def fmtD (P : List UInt8) : List UInt8 := dsk (headB 1) (mz (frameOf P)) (zer 32) (zer 992)
theorem fmt_doD {P : List UInt8} (hP : (frameOf P).length ≤ 992) : (doD (planW 0 1 P) 1024 (dsk (zer 32) (zer 992) (zer 32) (zer 992))).2.1 = fmtD P := by
  rw [(doD_plan0 zer_ok hP 1024).2, if_neg (by omega), fmtD]
  congr 1

set_option maxRecDepth 20000 in
set_option maxHeartbeats 8000000 in
theorem c_Format (a b : Int) (f h : Bool) (l : List (Int × List Int)) (k : List Int) (hm : mayB a b l k = true) (P : List UInt8) (hP : P = cps (snapNums 1 a b l k)) (hP0 : 0 < P.length) (hP4 : P.length ≤ 400) :
    ∃ n : Nat, n ≤ 32 ∧ Contract Try.prog 7 [.agg [i64 a, i64 b, .sl f (srs l), .sl h (ints k)]] (.tup [.ptr 0 0 0, bo true]) [{ sz := 2, rows := [[.own 1 0 2048, i64 n]], flat := false }, { sz := 1, rows := bys (fmtD P) }] := by
  have hFl := frameOf_len P
  have hn := doD_n (planW 0 1 P) 1024 (dsk (zer 32) (zer 992) (zer 32) (zer 992))
  rw [planW_len] at hn
  refine ⟨_, hn, ?_⟩
  refine contract_of_awp (rs := [2, 3]) Try.func7 rfl Try.ntmps7 (by simp) rfl fun E => ?_
  have hPl := c_Plan 0 1 a b 0 rfl 1 rfl f h l k hm (by decide) (by decide) P hP hP0 hP4
  have hpl := planW_len 0 1 P
  have hDo := c_dDo false (planW 0 1 P) (dsk (zer 32) (zer 992) (zer 32) (zer 992)) 0 1024 (planW_ok (by omega) 1 (by omega)) (by omega) zer_ok.len (by decide) (by decide) (by decide)
  rw [show (1024 : Int).toNat = 1024 from rfl, fmt_doD (by omega), (doD_plan0 zer_ok (by omega) 1024).1] at hDo
  generalize (doD (planW 0 1 P) 1024 (dsk (zer 32) (zer 992) (zer 32) (zer 992))).2.2 = c at *
  have hz : (0 : Int) + (c : Int) = (c : Int) := Int.zero_add _
  rw [hz] at hDo
  have kt : (!true) = false := rfl
  have hw : IntKind.i64.wrap (((32 : Nat) : Int) * 32) = 1024 := rfl
  have hNew := c_dNew (dsk (zer 32) (zer 992) (zer 32) (zer 992)) zer_dsk.symm
  have hpt : List.take 32 (planW 0 1 P) = planW 0 1 P := List.take_of_length_le (by omega)
  generalize dsk (zer 32) (zer 992) (zer 32) (zer 992) = Z at *
  generalize planW 0 1 P = W at *
  (repeat (first | refine awp_seq ?_ | refine awp_block ?_ | ((first | refine awp_skip ?_ | refine awp_exit ?_ | refine awp_reg ttok ?_ | (refine awp_draw ttok ?dr_calm ?_; (case dr_calm => decide +kernel)) | refine awp_condM ?_); simp (maxSteps := 4000000) only [↓reduceIte, Nat.reduceLT, Nat.reduceEqDiff, reduceCtorEq, Nat.reduceAdd, Nat.reduceMul, Int.reduceLE, Int.reduceLT, Int.reduceToNat, Nat.reduceLeDiff, Nat.reduceSub, Int.reduceEq, Nat.reduceBEq, List.replicate, List.set, if_false, if_true, ne_eq, false_implies, implies_true, evA, tyA]; (repeat (with_reducible refine And.intro ?_ ?_; focus ((repeat' with_reducible apply And.intro) <;> (first | omega | with_reducible trivial | with_reducible assumption)))); (with_reducible first | refine awp_id ?_ | refine id_call ?_ | refine id_and ?_ | refine id_ex ?_ | refine id_all ?_ | refine id_le ?_))))
  refine callVC_mk fnok8 hPl rfl ?_
  simp (maxSteps := 4000000) only [↓reduceIte, Nat.reduceLT, Nat.reduceEqDiff, reduceCtorEq, Nat.reduceAdd, Nat.reduceMul, Int.reduceLE, Int.reduceLT, Int.reduceToNat, Nat.reduceLeDiff, Nat.reduceSub, Int.reduceEq, Nat.reduceBEq, List.replicate, List.set, if_false, if_true, ne_eq, false_implies, implies_true, evA, tyA]
  (repeat (with_reducible refine And.intro ?_ ?_; focus ((repeat' with_reducible apply And.intro) <;> (first | omega | with_reducible trivial | with_reducible assumption))))
  (repeat (first | refine awp_seq ?_ | refine awp_block ?_ | ((first | refine awp_skip ?_ | refine awp_exit ?_ | refine awp_reg ttok ?_ | (refine awp_draw ttok ?dr_calm ?_; (case dr_calm => decide +kernel)) | refine awp_condM ?_); simp (maxSteps := 4000000) only [↓reduceIte, Nat.reduceLT, Nat.reduceEqDiff, reduceCtorEq, Nat.reduceAdd, Nat.reduceMul, Int.reduceLE, Int.reduceLT, Int.reduceToNat, Nat.reduceLeDiff, Nat.reduceSub, Int.reduceEq, Nat.reduceBEq, List.replicate, List.set, if_false, if_true, ne_eq, false_implies, implies_true, evA, tyA, kt]; (repeat (with_reducible refine And.intro ?_ ?_; focus ((repeat' with_reducible apply And.intro) <;> (first | omega | with_reducible trivial | with_reducible assumption)))); (with_reducible first | refine awp_id ?_ | refine id_call ?_ | refine id_and ?_ | refine id_ex ?_ | refine id_all ?_ | refine id_le ?_))))
  refine callVC_mk fnok16 hNew rfl ?_
  simp (maxSteps := 4000000) only [↓reduceIte, Nat.reduceLT, Nat.reduceEqDiff, reduceCtorEq, Nat.reduceAdd, Nat.reduceMul, Int.reduceLE, Int.reduceLT, Int.reduceToNat, Nat.reduceLeDiff, Nat.reduceSub, Int.reduceEq, Nat.reduceBEq, List.replicate, List.set, if_false, if_true, ne_eq, false_implies, implies_true, evA, tyA]
  (repeat (with_reducible refine And.intro ?_ ?_; focus ((repeat' with_reducible apply And.intro) <;> (first | omega | with_reducible trivial | with_reducible assumption))))
  (repeat (first | refine awp_seq ?_ | refine awp_block ?_ | ((first | refine awp_skip ?_ | refine awp_exit ?_ | refine awp_reg ttok ?_ | (refine awp_draw ttok ?dr_calm ?_; (case dr_calm => decide +kernel)) | refine awp_condM ?_); simp (maxSteps := 4000000) only [↓reduceIte, Nat.reduceLT, Nat.reduceEqDiff, reduceCtorEq, Nat.reduceAdd, Nat.reduceMul, Int.reduceLE, Int.reduceLT, Int.reduceToNat, Nat.reduceLeDiff, Nat.reduceSub, Int.reduceEq, Nat.reduceBEq, List.replicate, List.set, if_false, if_true, ne_eq, false_implies, implies_true, evA, tyA, hw]; (repeat (with_reducible refine And.intro ?_ ?_; focus ((repeat' with_reducible apply And.intro) <;> (first | omega | with_reducible trivial | with_reducible assumption)))); (with_reducible first | refine awp_id ?_ | refine id_call ?_ | refine id_and ?_ | refine id_ex ?_ | refine id_all ?_ | refine id_le ?_))))
  refine callVC_M [105000, 105001] fnok9 hDo (by simp (maxSteps := 4000000) only [↓reduceIte, Nat.reduceLT, Nat.reduceEqDiff, reduceCtorEq, Nat.reduceAdd, Nat.reduceMul, Int.reduceLE, Int.reduceLT, Int.reduceToNat, Nat.reduceLeDiff, Nat.reduceSub, Int.reduceEq, Nat.reduceBEq, List.replicate, List.set, if_false, if_true, ne_eq, false_implies, implies_true, evA, wrs_take, hpt, wrs_len, hpl]; rfl) (by simp (maxSteps := 4000000) only [↓reduceIte, Nat.reduceLT, Nat.reduceEqDiff, reduceCtorEq, Nat.reduceAdd, Nat.reduceMul, Int.reduceLE, Int.reduceLT, Int.reduceToNat, Nat.reduceLeDiff, Nat.reduceSub, Int.reduceEq, Nat.reduceBEq, List.replicate, List.set, if_false, if_true, ne_eq, false_implies, implies_true, evA]) ?_
  simp (maxSteps := 4000000) only [↓reduceIte, Nat.reduceLT, Nat.reduceEqDiff, reduceCtorEq, Nat.reduceAdd, Nat.reduceMul, Int.reduceLE, Int.reduceLT, Int.reduceToNat, Nat.reduceLeDiff, Nat.reduceSub, Int.reduceEq, Nat.reduceBEq, List.replicate, List.set, if_false, if_true, ne_eq, false_implies, implies_true, evA, tyA, wrs_len, hpl]
  (repeat (with_reducible refine And.intro ?_ ?_; focus ((repeat' with_reducible apply And.intro) <;> (first | omega | with_reducible trivial | with_reducible assumption))))
  (repeat (first | refine awp_seq ?_ | refine awp_block ?_ | ((first | refine awp_skip ?_ | refine awp_exit ?_ | refine awp_reg ttok ?_ | (refine awp_draw ttok ?dr_calm ?_; (case dr_calm => decide +kernel)) | refine awp_condM ?_); simp (maxSteps := 4000000) only [↓reduceIte, Nat.reduceLT, Nat.reduceEqDiff, reduceCtorEq, Nat.reduceAdd, Nat.reduceMul, Int.reduceLE, Int.reduceLT, Int.reduceToNat, Nat.reduceLeDiff, Nat.reduceSub, Int.reduceEq, Nat.reduceBEq, List.replicate, List.set, if_false, if_true, ne_eq, false_implies, implies_true, evA, tyA]; (repeat (with_reducible refine And.intro ?_ ?_; focus ((repeat' with_reducible apply And.intro) <;> (first | omega | with_reducible trivial | with_reducible assumption)))); (with_reducible first | refine awp_id ?_ | refine id_call ?_ | refine id_and ?_ | refine id_ex ?_ | refine id_all ?_ | refine id_le ?_))))
  exact awp_ret (endsO [105000, 105001] (.inr rfl) (by simp (maxSteps := 4000000) only [↓reduceIte, Nat.reduceLT, Nat.reduceEqDiff, reduceCtorEq, Nat.reduceAdd, Nat.reduceMul, Int.reduceLE, Int.reduceLT, Int.reduceToNat, Nat.reduceLeDiff, Nat.reduceSub, Int.reduceEq, Nat.reduceBEq, List.replicate, List.set, if_false, if_true, ne_eq, false_implies, implies_true, evA]; try rfl) (by simp (maxSteps := 4000000) only [↓reduceIte, Nat.reduceLT, Nat.reduceEqDiff, reduceCtorEq, Nat.reduceAdd, Nat.reduceMul, Int.reduceLE, Int.reduceLT, Int.reduceToNat, Nat.reduceLeDiff, Nat.reduceSub, Int.reduceEq, Nat.reduceBEq, List.replicate, List.set, if_false, if_true, ne_eq, false_implies, implies_true, evA]; try rfl))

theorem mz_take (m : List UInt8) : (mz m).take m.length = m := by
  rw [mz, List.take_append_of_le_length (Nat.le_refl _), List.take_length]
theorem hall_mz (f : Bool) (xs : List (List UInt8)) (hx : ∀ x ∈ xs, 0 < x.length ∧ x.length ≤ 400) (hn : xs.length ≤ 1000) (hm : (frs xs).length ≤ 992) :
    Contract Try.prog 46 [.sl f (bys (mz (frs xs)))] (.tup [.own 0 0 xs.length, i64 (frs xs).length]) [{ sz := 1, rows := bss xs }] := by
  unfold mz
  by_cases h2 : (frs xs).length ≤ 990
  · exact c_fAll f xs (zer (992 - (frs xs).length)) hx hn (by rw [zer_len]; omega) (by rw [zer_len]; omega) (zer_get _ _) (zer_get _ _)
  · exact c_fAllS f xs (zer (992 - (frs xs).length)) hx hn (by rw [zer_len]; omega)
theorem xs_ok {P : List UInt8} {L : List (Int × Int × Int × Int)} (hP0 : 0 < P.length) (hP4 : P.length ≤ 400) (hL : ∀ x ∈ L, nOk x) : ∀ x ∈ P :: nbs L, 0 < x.length ∧ x.length ≤ 400 := fun x hx => by
  rcases List.mem_cons.1 hx with rfl | hx
  · exact ⟨hP0, hP4⟩
  · obtain ⟨y, hy, rfl⟩ := List.mem_map.1 hx
    have := nb_len (hL y hy); omega
theorem frs_cons (P : List UInt8) (l : List (List UInt8)) : frs (P :: l) = frameOf P ++ frs l := by simp [frs]
theorem frs_nbs {L : List (Int × Int × Int × Int)} (hL : ∀ x ∈ L, nOk x) : (frs (nbs L)).length ≤ 27 * L.length := by
  induction L with
  | nil => simp [nbs, frs]
  | cons x L ih =>
    have h1 := ih (fun y hy => hL y (by simp [hy]))
    have h2 := nb_len (hL x (by simp))
    have e : nbs (x :: L) = putN [x.1, x.2.1, x.2.2.1, x.2.2.2] 4 :: nbs L := rfl
    rw [e, frs_cons, List.length_append, frameOf_len, List.length_cons]; omega
theorem frs_all {P : List UInt8} {L : List (Int × Int × Int × Int)} (hL : ∀ x ∈ L, nOk x) : (frs (P :: nbs L)).length ≤ P.length + 7 + 27 * L.length := by
  have := frs_nbs hL
  rw [frs_cons, List.length_append, frameOf_len]; omega
theorem headV (G : BitVec 32) : genV (headB G) = (G.toNat : Int) := by
  have h := gen_head G
  rw [genV, h.1, if_pos rfl, h.2]
theorem genz : genOk (zer 32) = false := by decide +kernel

/-- What a first area with an image and notes is found to be. -/
theorem area0Yes {h1 b1 B : List UInt8} {G : BitVec 32} (hD : DOk (headB G) B h1 b1) (n : Int) (hG : G.toNat ≤ 2147483647) {P : List UInt8} {L : List (Int × Int × Int × Int)} (hP0 : 0 < P.length) (hP4 : P.length ≤ 400) (hL : ∀ x ∈ L, nOk x) (hLn : L.length ≤ 100) (hm : (frs (P :: nbs L)).length ≤ 992)
    (hbx : B.take (frs (P :: nbs L)).length = frs (P :: nbs L)) (hall : Contract Try.prog 46 [.sl false (bys B)] (.tup [.own 0 0 (P :: nbs L).length, i64 (frs (P :: nbs L)).length]) [{ sz := 1, rows := bss (P :: nbs L) }])
    {a b : Int} {S : List (Int × List Int)} {Q : List Int} (hmay : mayB a b S Q = true) (hP : P = cps (snapNums (G.toNat : Int) a b S Q)) :
    ContractM Try.prog 22 [{ sz := 2, rows := [[.own 1 0 2048, i64 n]], flat := false }, { sz := 1, rows := bys (dsk (headB G) B h1 b1) }] [.ptr 0 0 0, i64 0]
      (.tup [.agg [i64 0, i64 (G.toNat : Int), i64 a, i64 b, .sl false (srs S), .sl false (ints Q), .sl false (rrs (goodN G.toNat a L 0))], .ptr 2 0 0, bo true])
      [some { sz := 2, rows := [[.own 1 0 2048, i64 n]], flat := false }, some { sz := 1, rows := bys (dsk (headB G) B h1 b1) }, some { sz := 3, rows := [[i64 0, .own 3 0 992, i64 (frs (P :: nbs L)).length]], flat := false }, some { sz := 1, rows := bys (mz (frs (P :: nbs L))) }] := by
  obtain ⟨_, _, hA, hB, _⟩ := mayB_true hmay
  have ha := (okI_iff a).1 hA
  exact c_areaYes (dsk (headB G) B h1 b1) n 0 hD.len (by omega) (headB G) B (dsk_r0 hD) (dsk_a0 hD) G.toNat hG (gen_head G).1 (headV G) P L hP0 hP4 hL hLn hm hbx hall a b S Q ha (by rw [hP]; exact get_put hmay (by omega) (by omega))
theorem area1Yes {h0 b0 B : List UInt8} {G : BitVec 32} (hD : DOk h0 b0 (headB G) B) (n : Int) (hG : G.toNat ≤ 2147483647) {P : List UInt8} {L : List (Int × Int × Int × Int)} (hP0 : 0 < P.length) (hP4 : P.length ≤ 400) (hL : ∀ x ∈ L, nOk x) (hLn : L.length ≤ 100) (hm : (frs (P :: nbs L)).length ≤ 992)
    (hbx : B.take (frs (P :: nbs L)).length = frs (P :: nbs L)) (hall : Contract Try.prog 46 [.sl false (bys B)] (.tup [.own 0 0 (P :: nbs L).length, i64 (frs (P :: nbs L)).length]) [{ sz := 1, rows := bss (P :: nbs L) }])
    {a b : Int} {S : List (Int × List Int)} {Q : List Int} (hmay : mayB a b S Q = true) (hP : P = cps (snapNums (G.toNat : Int) a b S Q)) {H : List UInt8} (hHe : H = headB G ∨ (genOk H = true ∧ genV H = (G.toNat : Int) ∧ H.length = 32)) :
    ContractM Try.prog 22 [{ sz := 2, rows := [[.own 1 0 2048, i64 n]], flat := false }, { sz := 1, rows := bys (dsk h0 b0 H B) }] [.ptr 0 0 0, i64 1]
      (.tup [.agg [i64 1, i64 (G.toNat : Int), i64 a, i64 b, .sl false (srs S), .sl false (ints Q), .sl false (rrs (goodN G.toNat a L 0))], .ptr 2 0 0, bo true])
      [some { sz := 2, rows := [[.own 1 0 2048, i64 n]], flat := false }, some { sz := 1, rows := bys (dsk h0 b0 H B) }, some { sz := 3, rows := [[i64 1, .own 3 0 992, i64 (frs (P :: nbs L)).length]], flat := false }, some { sz := 1, rows := bys (mz (frs (P :: nbs L))) }] := by
  obtain ⟨_, _, hA, hB, _⟩ := mayB_true hmay
  have ha := (okI_iff a).1 hA
  have hH : genOk H = true ∧ genV H = (G.toNat : Int) ∧ H.length = 32 := by
    rcases hHe with rfl | h
    · exact ⟨(gen_head G).1, headV G, headB_len G⟩
    · exact h
  have hD' : DOk h0 b0 H B := ⟨hD.l0, hD.l1, hH.2.2, hD.l3⟩
  exact c_areaYes (dsk h0 b0 H B) n 1 hD'.len (by omega) H B (dsk_r1 hD') (dsk_a1 hD') G.toNat hG hH.1 hH.2.1 P L hP0 hP4 hL hLn hm hbx hall a b S Q ha (by rw [hP]; exact get_put hmay (by omega) (by omega))
theorem area1No {h0 b0 h1 b1 : List UInt8} (hD : DOk h0 b0 h1 b1) (n : Int) (h : genOk h1 = false) :
    ContractM Try.prog 22 [{ sz := 2, rows := [[.own 1 0 2048, i64 n]], flat := false }, { sz := 1, rows := bys (dsk h0 b0 h1 b1) }] [.ptr 0 0 0, i64 1] (.tup [.agg fnd0, .v (.pointer none), bo false])
      [some { sz := 2, rows := [[.own 1 0 2048, i64 n]], flat := false }, some { sz := 1, rows := bys (dsk h0 b0 h1 b1) }] :=
  c_areaNo (dsk h0 b0 h1 b1) n 1 hD.len (by omega) (by rw [show 32 * (32 * 1) = 32 * 32 from rfl, dsk_r1 hD]; exact h)
theorem area0No {h0 b0 h1 b1 : List UInt8} (hD : DOk h0 b0 h1 b1) (n : Int) (h : genOk h0 = false) :
    ContractM Try.prog 22 [{ sz := 2, rows := [[.own 1 0 2048, i64 n]], flat := false }, { sz := 1, rows := bys (dsk h0 b0 h1 b1) }] [.ptr 0 0 0, i64 0] (.tup [.agg fnd0, .v (.pointer none), bo false])
      [some { sz := 2, rows := [[.own 1 0 2048, i64 n]], flat := false }, some { sz := 1, rows := bys (dsk h0 b0 h1 b1) }] :=
  c_areaNo (dsk h0 b0 h1 b1) n 0 hD.len (by omega) (by rw [show 32 * (32 * 0) = 32 * 0 from rfl, dsk_r0 hD]; exact h)

/-- A disk with an image and notes in its first area, nothing in the second one. -/
theorem findSN {B : List UInt8} {G : BitVec 32} (hB : B.length = 992) (n : Int) (hG : G.toNat ≤ 2147483647) {P : List UInt8} {L : List (Int × Int × Int × Int)} (hP0 : 0 < P.length) (hP4 : P.length ≤ 400) (hL : ∀ x ∈ L, nOk x) (hLn : L.length ≤ 100) (hm : (frs (P :: nbs L)).length ≤ 992)
    (hbx : B.take (frs (P :: nbs L)).length = frs (P :: nbs L)) (hall : Contract Try.prog 46 [.sl false (bys B)] (.tup [.own 0 0 (P :: nbs L).length, i64 (frs (P :: nbs L)).length]) [{ sz := 1, rows := bss (P :: nbs L) }])
    {a b : Int} {S : List (Int × List Int)} {Q : List Int} (hmay : mayB a b S Q = true) (hP : P = cps (snapNums (G.toNat : Int) a b S Q)) {h1 b1 : List UInt8} (hh : h1.length = 32) (hb : b1.length = 992) (hg1 : genOk h1 = false) :
    ContractM Try.prog 10 [{ sz := 2, rows := [[.own 1 0 2048, i64 n]], flat := false }, { sz := 1, rows := bys (dsk (headB G) B h1 b1) }] [.ptr 0 0 0]
      (.tup [.agg [i64 0, i64 (G.toNat : Int), i64 a, i64 b, .sl false (srs S), .sl false (ints Q), .sl false (rrs (goodN G.toNat a L 0))], .ptr 2 0 0, i64 0])
      [some { sz := 2, rows := [[.own 1 0 2048, i64 n]], flat := false }, some { sz := 1, rows := bys (dsk (headB G) B h1 b1) }, some { sz := 3, rows := [[i64 0, .own 3 0 992, i64 (frs (P :: nbs L)).length]], flat := false }, some { sz := 1, rows := bys (mz (frs (P :: nbs L))) }] := by
  have hD : DOk (headB G) B h1 b1 := ⟨headB_len G, hB, hh, hb⟩
  exact c_FindSN _ n hD.len _ _ _ _ S Q _ _ (area0Yes hD n hG hP0 hP4 hL hLn hm hbx hall hmay hP) (area1No hD n hg1)

set_option maxRecDepth 20000 in
set_option maxHeartbeats 8000000 in
theorem c_awake38 : Contract Try.prog 13 [] (bo true) [] := by
  refine contract_of_awp (rs := [0]) Try.func13 rfl Try.ntmps13 (by simp) rfl fun E => ?_
  have hm : mayB 0 5 [] [] = true := by decide
  obtain ⟨P, hP⟩ : ∃ P, P = cps (snapNums 1 0 5 [] []) := ⟨_, rfl⟩
  have hb := snapNums_bd (z := 1) hm (by decide)
  have hPl := cps_len (snapNums 1 0 5 [] []) (by decide)
  have h4 : (snapNums 1 0 5 [] []).length = 4 := rfl
  rw [← hP] at hb hPl
  obtain ⟨n, hn, hFo⟩ := c_Format 0 5 true true [] [] hm P hP (by omega) (by omega)
  have hFl := frameOf_len P
  have hf1 : frs (P :: nbs []) = frameOf P := by simp [frs, nbs]
  have hF := findSN (B := mz (frs (P :: nbs []))) (G := 1) (P := P) (L := []) (by rw [hf1]; exact mz_len (by omega)) (n : Int) (by decide) (by omega) (by omega) (by simp) (by simp) (by rw [hf1]; omega) (mz_take _) (hall_mz false _ (xs_ok (by omega) (by omega) (by simp)) (by simp [nbs]) (by rw [hf1]; omega)) hm hP (zer_len 32) (zer_len 992) genz
  have hD0 : DOk (zer 32) (zer 992) (zer 32) (zer 992) := zer_ok
  have hNN := c_FindNN _ 0 hD0.len (area0No hD0 0 genz) (area1No hD0 0 genz)
  have hNew := c_dNew (dsk (zer 32) (zer 992) (zer 32) (zer 992)) zer_dsk.symm
  rw [hf1] at hF
  have hgd : goodN ((1 : BitVec 32).toNat : Int) 0 [] 0 = [] := rfl
  rw [hgd] at hF
  simp only [fnd0] at hNN
  have hAr := c_jArea (mz (frameOf P)) 0 ((frameOf P).length : Int)
  have hml : (mz (frameOf P)).length = 992 := mz_len (by omega)
  have hmt : List.take 992 (mz (frameOf P)) = mz (frameOf P) := List.take_of_length_le (by omega)
  have h11 : (((1 : BitVec 32).toNat : Nat) : Int) = 1 := rfl
  rw [h11] at hF
  unfold fmtD at hFo
  generalize dsk (zer 32) (zer 992) (zer 32) (zer 992) = Z at *
  generalize dsk (headB 1) (mz (frameOf P)) (zer 32) (zer 992) = W at *
  (repeat (first | refine awp_seq ?_ | refine awp_block ?_ | ((first | refine awp_skip ?_ | refine awp_exit ?_ | refine awp_reg ttok ?_ | (refine awp_draw ttok ?dr_calm ?_; (case dr_calm => decide +kernel)) | refine awp_condM ?_); simp (maxSteps := 4000000) only [↓reduceIte, Nat.reduceLT, Nat.reduceEqDiff, reduceCtorEq, Nat.reduceAdd, Nat.reduceMul, Int.reduceLE, Int.reduceLT, Int.reduceToNat, Nat.reduceLeDiff, Nat.reduceSub, Int.reduceEq, Nat.reduceBEq, List.replicate, List.set, if_false, if_true, ne_eq, false_implies, implies_true, evA, tyA]; (repeat (with_reducible refine And.intro ?_ ?_; focus ((repeat' with_reducible apply And.intro) <;> (first | omega | with_reducible trivial | with_reducible assumption)))); (with_reducible first | refine awp_id ?_ | refine id_call ?_ | refine id_and ?_ | refine id_ex ?_ | refine id_all ?_ | refine id_le ?_))))
  refine callVC_mk fnok7 hFo rfl ?_
  simp (maxSteps := 4000000) only [↓reduceIte, Nat.reduceLT, Nat.reduceEqDiff, reduceCtorEq, Nat.reduceAdd, Nat.reduceMul, Int.reduceLE, Int.reduceLT, Int.reduceToNat, Nat.reduceLeDiff, Nat.reduceSub, Int.reduceEq, Nat.reduceBEq, List.replicate, List.set, if_false, if_true, ne_eq, false_implies, implies_true, evA, tyA]
  (repeat (with_reducible refine And.intro ?_ ?_; focus ((repeat' with_reducible apply And.intro) <;> (first | omega | with_reducible trivial | with_reducible assumption))))
  (repeat (first | refine awp_seq ?_ | refine awp_block ?_ | ((first | refine awp_skip ?_ | refine awp_exit ?_ | refine awp_reg ttok ?_ | (refine awp_draw ttok ?dr_calm ?_; (case dr_calm => decide +kernel)) | refine awp_condM ?_); simp (maxSteps := 4000000) only [↓reduceIte, Nat.reduceLT, Nat.reduceEqDiff, reduceCtorEq, Nat.reduceAdd, Nat.reduceMul, Int.reduceLE, Int.reduceLT, Int.reduceToNat, Nat.reduceLeDiff, Nat.reduceSub, Int.reduceEq, Nat.reduceBEq, List.replicate, List.set, if_false, if_true, ne_eq, false_implies, implies_true, evA, tyA]; (repeat (with_reducible refine And.intro ?_ ?_; focus ((repeat' with_reducible apply And.intro) <;> (first | omega | with_reducible trivial | with_reducible assumption)))); (with_reducible first | refine awp_id ?_ | refine id_call ?_ | refine id_and ?_ | refine id_ex ?_ | refine id_all ?_ | refine id_le ?_))))
  refine callVC_M [102001, 102002] fnok10 hF (by simp (maxSteps := 4000000) only [↓reduceIte, Nat.reduceLT, Nat.reduceEqDiff, reduceCtorEq, Nat.reduceAdd, Nat.reduceMul, Int.reduceLE, Int.reduceLT, Int.reduceToNat, Nat.reduceLeDiff, Nat.reduceSub, Int.reduceEq, Nat.reduceBEq, List.replicate, List.set, if_false, if_true, ne_eq, false_implies, implies_true, evA]; rfl) (by simp (maxSteps := 4000000) only [↓reduceIte, Nat.reduceLT, Nat.reduceEqDiff, reduceCtorEq, Nat.reduceAdd, Nat.reduceMul, Int.reduceLE, Int.reduceLT, Int.reduceToNat, Nat.reduceLeDiff, Nat.reduceSub, Int.reduceEq, Nat.reduceBEq, List.replicate, List.set, if_false, if_true, ne_eq, false_implies, implies_true, evA]) ?_
  simp (maxSteps := 4000000) only [↓reduceIte, Nat.reduceLT, Nat.reduceEqDiff, reduceCtorEq, Nat.reduceAdd, Nat.reduceMul, Int.reduceLE, Int.reduceLT, Int.reduceToNat, Nat.reduceLeDiff, Nat.reduceSub, Int.reduceEq, Nat.reduceBEq, List.replicate, List.set, if_false, if_true, ne_eq, false_implies, implies_true, evA, tyA]
  (repeat (with_reducible refine And.intro ?_ ?_; focus ((repeat' with_reducible apply And.intro) <;> (first | omega | with_reducible trivial | with_reducible assumption))))
  (repeat (first | refine awp_seq ?_ | refine awp_block ?_ | ((first | refine awp_skip ?_ | refine awp_exit ?_ | refine awp_reg ttok ?_ | (refine awp_draw ttok ?dr_calm ?_; (case dr_calm => decide +kernel)) | refine awp_condM ?_); simp (maxSteps := 4000000) only [↓reduceIte, Nat.reduceLT, Nat.reduceEqDiff, reduceCtorEq, Nat.reduceAdd, Nat.reduceMul, Int.reduceLE, Int.reduceLT, Int.reduceToNat, Nat.reduceLeDiff, Nat.reduceSub, Int.reduceEq, Nat.reduceBEq, List.replicate, List.set, if_false, if_true, ne_eq, false_implies, implies_true, evA, tyA]; (repeat (with_reducible refine And.intro ?_ ?_; focus ((repeat' with_reducible apply And.intro) <;> (first | omega | with_reducible trivial | with_reducible assumption)))); (with_reducible first | refine awp_id ?_ | refine id_call ?_ | refine id_and ?_ | refine id_ex ?_ | refine id_all ?_ | refine id_le ?_))))
  refine callVC_mk fnok16 hNew rfl ?_
  simp (maxSteps := 4000000) only [↓reduceIte, Nat.reduceLT, Nat.reduceEqDiff, reduceCtorEq, Nat.reduceAdd, Nat.reduceMul, Int.reduceLE, Int.reduceLT, Int.reduceToNat, Nat.reduceLeDiff, Nat.reduceSub, Int.reduceEq, Nat.reduceBEq, List.replicate, List.set, if_false, if_true, ne_eq, false_implies, implies_true, evA, tyA]
  (repeat (with_reducible refine And.intro ?_ ?_; focus ((repeat' with_reducible apply And.intro) <;> (first | omega | with_reducible trivial | with_reducible assumption))))
  refine callVC_M [104000, 104001] fnok10 hNN (by simp (maxSteps := 4000000) only [↓reduceIte, Nat.reduceLT, Nat.reduceEqDiff, reduceCtorEq, Nat.reduceAdd, Nat.reduceMul, Int.reduceLE, Int.reduceLT, Int.reduceToNat, Nat.reduceLeDiff, Nat.reduceSub, Int.reduceEq, Nat.reduceBEq, List.replicate, List.set, if_false, if_true, ne_eq, false_implies, implies_true, evA]; rfl) (by simp (maxSteps := 4000000) only [↓reduceIte, Nat.reduceLT, Nat.reduceEqDiff, reduceCtorEq, Nat.reduceAdd, Nat.reduceMul, Int.reduceLE, Int.reduceLT, Int.reduceToNat, Nat.reduceLeDiff, Nat.reduceSub, Int.reduceEq, Nat.reduceBEq, List.replicate, List.set, if_false, if_true, ne_eq, false_implies, implies_true, evA]) ?_
  simp (maxSteps := 4000000) only [↓reduceIte, Nat.reduceLT, Nat.reduceEqDiff, reduceCtorEq, Nat.reduceAdd, Nat.reduceMul, Int.reduceLE, Int.reduceLT, Int.reduceToNat, Nat.reduceLeDiff, Nat.reduceSub, Int.reduceEq, Nat.reduceBEq, List.replicate, List.set, if_false, if_true, ne_eq, false_implies, implies_true, evA, tyA]
  (repeat (with_reducible refine And.intro ?_ ?_; focus ((repeat' with_reducible apply And.intro) <;> (first | omega | with_reducible trivial | with_reducible assumption))))
  (repeat (first | refine awp_seq ?_ | refine awp_block ?_ | ((first | refine awp_skip ?_ | refine awp_exit ?_ | refine awp_reg ttok ?_ | (refine awp_draw ttok ?dr_calm ?_; (case dr_calm => decide +kernel)) | refine awp_condM ?_); simp (maxSteps := 4000000) only [↓reduceIte, Nat.reduceLT, Nat.reduceEqDiff, reduceCtorEq, Nat.reduceAdd, Nat.reduceMul, Int.reduceLE, Int.reduceLT, Int.reduceToNat, Nat.reduceLeDiff, Nat.reduceSub, Int.reduceEq, Nat.reduceBEq, List.replicate, List.set, if_false, if_true, ne_eq, false_implies, implies_true, evA, tyA, rrs_len, show (((0 : Nat) : Int) == 0) = true from rfl, hmt, hml]; (repeat (with_reducible refine And.intro ?_ ?_; focus ((repeat' with_reducible apply And.intro) <;> (first | omega | with_reducible trivial | with_reducible assumption)))); (with_reducible first | refine awp_id ?_ | refine id_call ?_ | refine id_and ?_ | refine id_ex ?_ | refine id_all ?_ | refine id_le ?_))))
  refine callVC_scal fnok12 hAr rfl ?_
  simp (maxSteps := 4000000) only [↓reduceIte, Nat.reduceLT, Nat.reduceEqDiff, reduceCtorEq, Nat.reduceAdd, Nat.reduceMul, Int.reduceLE, Int.reduceLT, Int.reduceToNat, Nat.reduceLeDiff, Nat.reduceSub, Int.reduceEq, Nat.reduceBEq, List.replicate, List.set, if_false, if_true, ne_eq, false_implies, implies_true, evA, tyA]
  (repeat (with_reducible refine And.intro ?_ ?_; focus ((repeat' with_reducible apply And.intro) <;> (first | omega | with_reducible trivial | with_reducible assumption))))
  (repeat (first | refine awp_seq ?_ | refine awp_block ?_ | ((first | refine awp_skip ?_ | refine awp_exit ?_ | refine awp_reg ttok ?_ | (refine awp_draw ttok ?dr_calm ?_; (case dr_calm => decide +kernel)) | refine awp_condM ?_); simp (maxSteps := 4000000) only [↓reduceIte, Nat.reduceLT, Nat.reduceEqDiff, reduceCtorEq, Nat.reduceAdd, Nat.reduceMul, Int.reduceLE, Int.reduceLT, Int.reduceToNat, Nat.reduceLeDiff, Nat.reduceSub, Int.reduceEq, Nat.reduceBEq, List.replicate, List.set, if_false, if_true, ne_eq, false_implies, implies_true, evA, tyA]; (repeat (with_reducible refine And.intro ?_ ?_; focus ((repeat' with_reducible apply And.intro) <;> (first | omega | with_reducible trivial | with_reducible assumption)))); (with_reducible first | refine awp_id ?_ | refine id_call ?_ | refine id_and ?_ | refine id_ex ?_ | refine id_all ?_ | refine id_le ?_))))
  exact awp_ret (ends_plain (.inr rfl) rfl (by simp (maxSteps := 4000000) only [↓reduceIte, Nat.reduceLT, Nat.reduceEqDiff, reduceCtorEq, Nat.reduceAdd, Nat.reduceMul, Int.reduceLE, Int.reduceLT, Int.reduceToNat, Nat.reduceLeDiff, Nat.reduceSub, Int.reduceEq, Nat.reduceBEq, List.replicate, List.set, if_false, if_true, ne_eq, false_implies, implies_true, evA]))

end Go.Proofs.Ytmfonlkigjpjcaa
