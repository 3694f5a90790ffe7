import Derived.Test.YtbhjmioegdgpnaaDl
import Derived.Test.YtbhjmioegdgpnaaEr
import Derived.Test.YtbhjmioegdgpnaaWd
import Derived.Test.YtbhjmioegdgpnaaRows
import Derived.Test.YtbhjmioegdgpnaaClo
set_option linter.unusedSimpArgs false
set_option linter.unusedVariables false
namespace Go.Proofs.Ytbhjmioegdgpnaa
open Go.Ab
def M19 : Mv := [[(0, 0)]]
theorem mOk19 : MOk 1 1 M19 := ⟨rfl, by decide⟩
theorem rOk19 : ∀ s, (M19.getD s []).length ≤ 1000 := fun s => by
  match s with
  | 0 => decide
  | s + 1 => simp [M19]
theorem nOk19 : NOk 1 1 [[0]] := ⟨rfl, by decide⟩
theorem v19a : dAll 1 M19 (cloL M19 [0]) = [[0]] := by decide +kernel
theorem v19b : dFin [true] [[0]] = [true] := by decide +kernel
theorem v19c : dNx 1 M19 [[0]] = [[0]] := by decide +kernel
set_option maxRecDepth 20000 in
set_option maxHeartbeats 16000000 in
theorem c_awake19 : Contract Try.prog 23 [] (bo true) [] := by
  refine contract_of_awp (rs := [0]) Try.func23 rfl Try.ntmps23 (by simp) rfl fun E => ?_
  have h1 := c_DOf mOk19 rOk19 (by decide) (by decide) 0 (by decide) [true] rfl
  have z0 : ((0 : Nat) : Int) = 0 := rfl
  rw [z0, v19a, v19b, v19c] at h1
  have h2 := c_DTakes nOk19 0 (by decide) [true] rfl false [0, 0] (by decide)
  have h3 := c_DBegins nOk19 0 [true] false [1] (by decide)
  have h4 := c_May nOk19 0 (by decide) [true] rfl (by decide) (by decide)
  have w2 : endsD [true] [[0]] ((0 : Nat) : Int) [0, 0] = true := by decide
  have w3 : decide (runD [[0]] ((0 : Nat) : Int) [1] ≥ 0) = false := by decide
  rw [w2] at h2
  rw [w3] at h3
  have k0 : ((0 : Int) == 0) = true := rfl
  have k1 : (((1 : Nat) : Int) == 1) = true := rfl
  have i1 : (iis [[0]]).getD 0 [] = [.sl false (ints [0])] := rfl
  have i2 : (ints [0]).getD 0 [] = [i64 0] := rfl
  have i3 : (iis [[0]]).length = 1 := rfl
  have i4 : (ints [0]).length = 1 := rfl
  (repeat (first | refine awp_seq ?_ | refine awp_block ?_ | ((first | refine awp_skip ?_ | refine awp_exit ?_ | refine awp_reg ttok ?_ | (refine awp_draw ttok ?dr_calm ?_; (case dr_calm => decide +kernel)) | refine awp_condM ?_); simp (maxSteps := 4000000) only [↓reduceIte, Nat.reduceLT, Nat.reduceEqDiff, reduceCtorEq, Nat.reduceAdd, Nat.reduceMul, Int.reduceLE, Int.reduceLT, Int.reduceToNat, Nat.reduceLeDiff, Nat.reduceSub, Int.reduceEq, Nat.reduceBEq, List.replicate, List.set, evB, tyA]; (repeat (with_reducible refine And.intro ?_ ?_; exact sdX)); (with_reducible first | refine awp_id ?_ | refine id_call ?_ | refine id_and ?_ | refine id_ex ?_ | refine id_all ?_ | refine id_nat ?_ | refine id_le ?_))))
  refine callVC_mk fnok19 h1 rfl ?_
  simp (maxSteps := 4000000) only [↓reduceIte, Nat.reduceLT, Nat.reduceEqDiff, reduceCtorEq, Nat.reduceAdd, Nat.reduceMul, Int.reduceLE, Int.reduceLT, Int.reduceToNat, Nat.reduceLeDiff, Nat.reduceSub, Int.reduceEq, Nat.reduceBEq, List.replicate, List.set, evB, tyA, dfaD]
  (repeat (with_reducible refine And.intro ?_ ?_; exact sdX))
  (repeat (first | refine awp_seq ?_ | refine awp_block ?_ | ((first | refine awp_skip ?_ | refine awp_exit ?_ | refine awp_reg ttok ?_ | (refine awp_draw ttok ?dr_calm ?_; (case dr_calm => decide +kernel)) | refine awp_condM ?_); simp (maxSteps := 4000000) only [↓reduceIte, Nat.reduceLT, Nat.reduceEqDiff, reduceCtorEq, Nat.reduceAdd, Nat.reduceMul, Int.reduceLE, Int.reduceLT, Int.reduceToNat, Nat.reduceLeDiff, Nat.reduceSub, Int.reduceEq, Nat.reduceBEq, List.replicate, List.set, evB, tyA, k0, k1, i1, i2, i3, i4]; (repeat (with_reducible refine And.intro ?_ ?_; exact sdX)); (with_reducible first | refine awp_id ?_ | refine id_call ?_ | refine id_and ?_ | refine id_ex ?_ | refine id_all ?_ | refine id_nat ?_ | refine id_le ?_))))
  refine callVC_scal fnok21 h2 rfl ?_
  simp (maxSteps := 4000000) only [↓reduceIte, Nat.reduceLT, Nat.reduceEqDiff, reduceCtorEq, Nat.reduceAdd, Nat.reduceMul, Int.reduceLE, Int.reduceLT, Int.reduceToNat, Nat.reduceLeDiff, Nat.reduceSub, Int.reduceEq, Nat.reduceBEq, List.replicate, List.set, evB, tyA, k0, k1, i1, i2, i3, i4]
  (repeat (with_reducible refine And.intro ?_ ?_; exact sdX))
  refine callVC_scal fnok40 h3 rfl ?_
  simp (maxSteps := 4000000) only [↓reduceIte, Nat.reduceLT, Nat.reduceEqDiff, reduceCtorEq, Nat.reduceAdd, Nat.reduceMul, Int.reduceLE, Int.reduceLT, Int.reduceToNat, Nat.reduceLeDiff, Nat.reduceSub, Int.reduceEq, Nat.reduceBEq, List.replicate, List.set, evB, tyA]
  (repeat (with_reducible refine And.intro ?_ ?_; exact sdX))
  refine callVC_scal fnok20 h4 rfl ?_
  simp (maxSteps := 4000000) only [↓reduceIte, Nat.reduceLT, Nat.reduceEqDiff, reduceCtorEq, Nat.reduceAdd, Nat.reduceMul, Int.reduceLE, Int.reduceLT, Int.reduceToNat, Nat.reduceLeDiff, Nat.reduceSub, Int.reduceEq, Nat.reduceBEq, List.replicate, List.set, evB, tyA]
  (repeat (with_reducible refine And.intro ?_ ?_; exact sdX))
  (repeat (first | refine awp_seq ?_ | refine awp_block ?_ | ((first | refine awp_skip ?_ | refine awp_exit ?_ | refine awp_reg ttok ?_ | (refine awp_draw ttok ?dr_calm ?_; (case dr_calm => decide +kernel)) | refine awp_condM ?_); simp (maxSteps := 4000000) only [↓reduceIte, Nat.reduceLT, Nat.reduceEqDiff, reduceCtorEq, Nat.reduceAdd, Nat.reduceMul, Int.reduceLE, Int.reduceLT, Int.reduceToNat, Nat.reduceLeDiff, Nat.reduceSub, Int.reduceEq, Nat.reduceBEq, List.replicate, List.set, evB, tyA]; (repeat (with_reducible refine And.intro ?_ ?_; exact sdX)); (with_reducible first | refine awp_id ?_ | refine id_call ?_ | refine id_and ?_ | refine id_ex ?_ | refine id_all ?_ | refine id_nat ?_ | refine id_le ?_))))
  exact awp_ret (ends_plain (.inr rfl) rfl evX)
theorem onL_pre (p : Nat → Bool) {a b : Nat} (h : a ≤ b) : ∃ ls, onL b p = onL a p ++ ls := by
  obtain ⟨c, rfl⟩ := Nat.exists_eq_add_of_le h
  clear h
  induction c with
  | zero => exact ⟨[], by simp⟩
  | succ c ih =>
    obtain ⟨ls, e⟩ := ih
    exact ⟨_, by rw [← Nat.add_assoc, onL_succ, e, List.append_assoc]⟩
def atJ (p : List (List Int)) (T : List Int) (j : Nat) : Int := if (p.take j).contains T = true then ((p.idxOf T : Nat) : Int) else -1
theorem atJ_zero (p : List (List Int)) (T : List Int) : atJ p T 0 = -1 := by simp [atJ]
theorem atJ_yes {p : List (List Int)} (hp : p.Nodup) {T : List Int} {j : Nat} (hj : j < p.length) (e : p.getD j [] = T) : atJ p T (j + 1) = (j : Int) := by
  have he : p[j] = T := by simpa [List.getD, List.getElem?_eq_getElem hj] using e
  unfold atJ
  rw [if_pos (by rw [take_snoc hj [], e]; simp)]
  rw [← he]
  have := List.Nodup.idxOf_getElem hp j hj
  rw [this]
theorem atJ_no {p : List (List Int)} {T : List Int} {j : Nat} (hj : j < p.length) (e : p.getD j [] ≠ T) : atJ p T (j + 1) = atJ p T j := by
  unfold atJ
  rw [take_snoc hj []]
  have : (p.take j ++ [p.getD j []]).contains T = (p.take j).contains T := by
    rw [Bool.eq_iff_iff]
    simp only [List.contains_iff_mem, List.mem_append, List.mem_singleton]
    constructor
    · rintro (q | q)
      · exact q
      · exact absurd q.symm e
    · exact .inl
  rw [this]
theorem atJ_all (p : List (List Int)) (T : List Int) : atJ p T p.length = if p.contains T = true then ((p.idxOf T : Nat) : Int) else -1 := by
  unfold atJ; rw [List.take_length]
set_option maxRecDepth 20000 in
set_option maxHeartbeats 64000000 in
theorem c_DetSame (f : Bool) (l : List (Int × Int × Int)) (fin z0 z1 : Int) (hl : l.length ≤ 9223372036854775807) :
    Contract Try.prog 5 [.sl f (tri l), i64 fin, .agg [i64 z0, i64 z1]] (bo true) [] := by
  refine contract_of_awp (rs := [6]) Try.func5 rfl Try.ntmps5 (by simp) rfl fun E => ?_
  have hc := c_Nfa f l fin z0 z1 hl
  have hL := labN_le z0
  have hk := numD_le z1
  have hst := startD_lt z1
  have hok := movN_ok (L := labN z0) hk.1 l
  have hR : ∀ s, ((movN (labN z0) (numD z1) l).getD s []).length ≤ 1000 := fun s => by
    have := mvN_rl (L := labN z0) (k := numD z1) l (min l.length 20) s
    exact Nat.le_trans this (by omega)
  have hF := finD_len fin (numD z1)
  generalize movN (labN z0) (numD z1) l = M at *
  generalize finD fin (numD z1) = F at *
  generalize numD z1 = k at *
  generalize startD z1 = st at *
  have hU := c_Upto (labN z0) 4 (by omega) (by omega)
  have hUm : ∀ i, i < (uptoL (labN z0) 4).length → ((uptoL (labN z0) 4).getD i []).length ≤ 4 ∧ ∀ x ∈ (uptoL (labN z0) 4).getD i [], 0 ≤ x := fun i hi => by
    have := uptoL_mem.1 (getD_mem hi [])
    exact ⟨this.1, fun x hx => (this.2 x hx).1⟩
  have hUl : (uptoL (labN z0) 4).length ≤ 6 * 1048576 := by
    have := uptoP_len (L := labN z0) (n := 4) (by omega) (by omega) 5 (by omega)
    rw [uptoP_all] at this
    omega
  generalize uptoL (labN z0) 4 = U at *
  generalize labN z0 = L at *
  have hkl := hok.len
  have h2k : 2 ^ k ≤ 256 := Nat.pow_le_pow_right (show 0 < 2 by decide) hk.2
  have hOf := c_DOf hok hR (by omega) ⟨by omega, by omega⟩ st hst F hF
  have hA := DA.mk (L := L) (z := cloL M [(st : Int)]) (Q := dAll L M (cloL M [(st : Int)])) hok ⟨_, rfl⟩ rfl
  have hlang := fun w (hw : ∀ x ∈ w, 0 ≤ x) => hA.lang F w 0 hA.q0.1 hw
  rw [hA.q0.2] at hlang
  have htk : ∀ w, finL F (takS M (cloL M [(st : Int)]) w) = takB M F st w := fun _ => rfl
  have hzne : cloL M [(st : Int)] ≠ [] := clo_ne hok (x := st) (by simp) hst
  have hCl0 := c_RClose hok ⟨by omega, by omega⟩ st F false [(st : Int)] (by simp) hR
  have e1 : ints [(st : Int)] = [[i64 st]] := rfl
  rw [e1] at hCl0
  generalize hQ : dAll L M (cloL M [(st : Int)]) = Q at *
  have hdi := fun i => hA.di i
  have hdne := fun i => dQ_ne (L := L) hok hzne i
  have hrow := fun {i : Nat} {ks ls : List Int} (hi : i < Q.length) => hA.row (i := i) hi (ks := ks) (ls := ls)
  have hend := fun {i : Nat} => hA.end_ (i := i)
  have hpre := fun {i : Nat} => hA.pre (i := i)
  have hlQ := hA.lenQ
  have hq0 := hA.q0.1
  have hdok := hA.ok
  have hcell := fun {i a : Nat} (hi : i < Q.length) (ha : a < L) => hA.cell (i := i) (a := a) hi ha
  have hat := fun {i : Nat} => hA.at_ (i := i)
  have hlen : ∀ {q : List (List Int)}, DI M q → q.length ≤ 2 ^ k := fun hq => by have := hq.len; rwa [hkl] at this
  generalize cloL M [(st : Int)] = z at *
  generalize 2 ^ k = K2 at *
  have hfl : (dFin F Q).length = Q.length := by simp [dFin]
  have hGok := hdok
  have hMay := c_May hdok 0 hq0 (dFin F Q) hfl (by omega) ⟨by omega, by omega⟩
  have kL : ((L : Int) != (L : Int)) = false := by simp
  have k0 : ((0 : Int) != 0) = false := rfl
  have k0' : (((0 : Nat) : Int) != 0) = false := rfl
  have kt : ∀ b : Bool, (!(b == b)) = false := by decide
  (repeat (first | refine awp_seq ?_ | refine awp_block ?_ | ((first | refine awp_skip ?_ | refine awp_exit ?_ | refine awp_reg ttok ?_ | (refine awp_draw ttok ?dr_calm ?_; (case dr_calm => decide +kernel)) | refine awp_condM ?_); simp (maxSteps := 4000000) only [↓reduceIte, Nat.reduceLT, Nat.reduceEqDiff, reduceCtorEq, Nat.reduceAdd, Nat.reduceMul, Int.reduceLE, Int.reduceLT, Int.reduceToNat, Nat.reduceLeDiff, Nat.reduceSub, Int.reduceEq, Nat.reduceBEq, List.replicate, List.set, evB, tyA]; (repeat (with_reducible refine And.intro ?_ ?_; exact sdX)); (with_reducible first | refine awp_id ?_ | refine id_call ?_ | refine id_and ?_ | refine id_ex ?_ | refine id_all ?_ | refine id_nat ?_ | refine id_le ?_))))
  refine callVC_mk fnok7 hc rfl ?_
  simp (maxSteps := 4000000) only [↓reduceIte, Nat.reduceLT, Nat.reduceEqDiff, reduceCtorEq, Nat.reduceAdd, Nat.reduceMul, Int.reduceLE, Int.reduceLT, Int.reduceToNat, Nat.reduceLeDiff, Nat.reduceSub, Int.reduceEq, Nat.reduceBEq, List.replicate, List.set, evB, tyA, nfaD]
  (repeat (with_reducible refine And.intro ?_ ?_; exact sdX))
  (repeat (first | refine awp_seq ?_ | refine awp_block ?_ | ((first | refine awp_skip ?_ | refine awp_exit ?_ | refine awp_reg ttok ?_ | (refine awp_draw ttok ?dr_calm ?_; (case dr_calm => decide +kernel)) | refine awp_condM ?_); simp (maxSteps := 4000000) only [↓reduceIte, Nat.reduceLT, Nat.reduceEqDiff, reduceCtorEq, Nat.reduceAdd, Nat.reduceMul, Int.reduceLE, Int.reduceLT, Int.reduceToNat, Nat.reduceLeDiff, Nat.reduceSub, Int.reduceEq, Nat.reduceBEq, List.replicate, List.set, evB, tyA]; (repeat (with_reducible refine And.intro ?_ ?_; exact sdX)); (with_reducible first | refine awp_id ?_ | refine id_call ?_ | refine id_and ?_ | refine id_ex ?_ | refine id_all ?_ | refine id_nat ?_ | refine id_le ?_))))
  refine callVC_mk fnok19 hOf rfl ?_
  simp (maxSteps := 4000000) only [↓reduceIte, Nat.reduceLT, Nat.reduceEqDiff, reduceCtorEq, Nat.reduceAdd, Nat.reduceMul, Int.reduceLE, Int.reduceLT, Int.reduceToNat, Nat.reduceLeDiff, Nat.reduceSub, Int.reduceEq, Nat.reduceBEq, List.replicate, List.set, evB, tyA, dfaD]
  (repeat (with_reducible refine And.intro ?_ ?_; exact sdX))
  (repeat (first | refine awp_seq ?_ | refine awp_block ?_ | ((first | refine awp_skip ?_ | refine awp_exit ?_ | refine awp_reg ttok ?_ | (refine awp_draw ttok ?dr_calm ?_; (case dr_calm => decide +kernel)) | refine awp_condM ?_); simp (maxSteps := 4000000) only [↓reduceIte, Nat.reduceLT, Nat.reduceEqDiff, reduceCtorEq, Nat.reduceAdd, Nat.reduceMul, Int.reduceLE, Int.reduceLT, Int.reduceToNat, Nat.reduceLeDiff, Nat.reduceSub, Int.reduceEq, Nat.reduceBEq, List.replicate, List.set, evB, tyA, k0, kL]; (repeat (with_reducible refine And.intro ?_ ?_; exact sdX)); (with_reducible first | refine awp_id ?_ | refine id_call ?_ | refine id_and ?_ | refine id_ex ?_ | refine id_all ?_ | refine id_nat ?_ | refine id_le ?_))))
  refine callVC_scal fnok20 hMay rfl ?_
  simp (maxSteps := 4000000) only [↓reduceIte, Nat.reduceLT, Nat.reduceEqDiff, reduceCtorEq, Nat.reduceAdd, Nat.reduceMul, Int.reduceLE, Int.reduceLT, Int.reduceToNat, Nat.reduceLeDiff, Nat.reduceSub, Int.reduceEq, Nat.reduceBEq, List.replicate, List.set, evB, tyA, k0, k0', kL]
  (repeat (with_reducible refine And.intro ?_ ?_; exact sdX))
  (repeat (first | refine awp_seq ?_ | refine awp_block ?_ | ((first | refine awp_skip ?_ | refine awp_exit ?_ | refine awp_reg ttok ?_ | (refine awp_draw ttok ?dr_calm ?_; (case dr_calm => decide +kernel)) | refine awp_condM ?_); simp (maxSteps := 4000000) only [↓reduceIte, Nat.reduceLT, Nat.reduceEqDiff, reduceCtorEq, Nat.reduceAdd, Nat.reduceMul, Int.reduceLE, Int.reduceLT, Int.reduceToNat, Nat.reduceLeDiff, Nat.reduceSub, Int.reduceEq, Nat.reduceBEq, List.replicate, List.set, evB, tyA, k0, k0', kL]; (repeat (with_reducible refine And.intro ?_ ?_; exact sdX)); (with_reducible first | refine awp_id ?_ | refine id_call ?_ | refine id_and ?_ | refine id_ex ?_ | refine id_all ?_ | refine id_nat ?_ | refine id_le ?_))))
  refine callVC_mk fnok8 hU rfl ?_
  simp (maxSteps := 4000000) only [↓reduceIte, Nat.reduceLT, Nat.reduceEqDiff, reduceCtorEq, Nat.reduceAdd, Nat.reduceMul, Int.reduceLE, Int.reduceLT, Int.reduceToNat, Nat.reduceLeDiff, Nat.reduceSub, Int.reduceEq, Nat.reduceBEq, List.replicate, List.set, evB, tyA]
  (repeat (with_reducible refine And.intro ?_ ?_; exact sdX))
  (repeat (first | refine awp_seq ?_ | refine awp_block ?_ | ((first | refine awp_skip ?_ | refine awp_exit ?_ | refine awp_reg ttok ?_ | (refine awp_draw ttok ?dr_calm ?_; (case dr_calm => decide +kernel)) | refine awp_condM ?_); simp (maxSteps := 4000000) only [↓reduceIte, Nat.reduceLT, Nat.reduceEqDiff, reduceCtorEq, Nat.reduceAdd, Nat.reduceMul, Int.reduceLE, Int.reduceLT, Int.reduceToNat, Nat.reduceLeDiff, Nat.reduceSub, Int.reduceEq, Nat.reduceBEq, List.replicate, List.set, evB, tyA]; (repeat (with_reducible refine And.intro ?_ ?_; exact sdX)); (with_reducible first | refine awp_id ?_ | refine id_call ?_ | refine id_and ?_ | refine id_ex ?_ | refine id_all ?_ | refine id_nat ?_ | refine id_le ?_))))
  refine awp_loop (X := Nat) (fun i => mkS 162 [(7, .ptr 2004 0 0), (8, .ptr 3005 0 0), (10, .sl false (iis U)), (11, i64 i)] [(2004, { sz := 4, rows := [[i64 L, i64 st, .sl false (bos F), .sl false (mmv M)]], flat := false }), (3005, { sz := 4, rows := [[i64 L, i64 (0 : Nat), .sl false (bos (dFin F Q)), .sl false (iis (dNx L M Q))]], flat := false })]) (fun i => i ≤ U.length) (fun i => U.length - i) 0 (Nat.zero_le _) (mkS_le rfl ?_ ?_) ?_
  · simp (maxSteps := 4000000) only [↓reduceIte, Nat.reduceLT, Nat.reduceEqDiff, reduceCtorEq, Nat.reduceAdd, Nat.reduceMul, Int.reduceLE, Int.reduceLT, Int.reduceToNat, Nat.reduceLeDiff, Nat.reduceSub, Int.reduceEq, Nat.reduceBEq, List.replicate, List.set, evB]
    try rfl
  · simp (maxSteps := 4000000) only [↓reduceIte, Nat.reduceLT, Nat.reduceEqDiff, reduceCtorEq, Nat.reduceAdd, Nat.reduceMul, Int.reduceLE, Int.reduceLT, Int.reduceToNat, Nat.reduceLeDiff, Nat.reduceSub, Int.reduceEq, Nat.reduceBEq, List.replicate, List.set, evB]
    try rfl
  · intro i hi
    by_cases hlt : i < U.length
    · have d1 : decide ((i : Int) < (U.length : Int)) = true := by simpa using hlt
      have hwi : IntKind.i64.wrap ((i : Int) + 1) = ((i + 1 : Nat) : Int) := i64_in (by omega) (by omega)
      have hgi := iis_get hlt
      have hm := hUm i hlt
      generalize U.getD i [] = w at *
      have hT := c_DTakes hGok 0 hq0 (dFin F Q) hfl false w (by omega)
      have hE := c_EndsG hGok 0 (dFin F Q) hfl (by omega) ⟨by omega, by omega⟩ ((0 : Nat) : Int) (by omega) false w (by omega)
      have hT2 := c_RTakes hok ⟨by omega, by omega⟩ st F hF false w (by omega) hR
      have hlw := hlang w hm.2
      rw [hlw, htk] at hT hE
      (repeat (first | refine awp_seq ?_ | refine awp_block ?_ | ((first | refine awp_skip ?_ | refine awp_exit ?_ | refine awp_reg ttok ?_ | (refine awp_draw ttok ?dr_calm ?_; (case dr_calm => decide +kernel)) | refine awp_condM ?_); simp (maxSteps := 4000000) only [↓reduceIte, Nat.reduceLT, Nat.reduceEqDiff, reduceCtorEq, Nat.reduceAdd, Nat.reduceMul, Int.reduceLE, Int.reduceLT, Int.reduceToNat, Nat.reduceLeDiff, Nat.reduceSub, Int.reduceEq, Nat.reduceBEq, List.replicate, List.set, evB, tyA, d1, iis_len]; (repeat (with_reducible refine And.intro ?_ ?_; exact sdX)); (with_reducible first | refine awp_id ?_ | refine id_call ?_ | refine id_and ?_ | refine id_ex ?_ | refine id_all ?_ | refine id_nat ?_ | refine id_le ?_))))
      refine awp_drawG ttok ((0, none) :: (1, none) :: (2, none) :: (3, none) :: (4, none) :: (6, none) :: (7, none) :: (8, none) :: (9, none) :: (10, none) :: (5, some [6, 7, 8, 9, 10]) :: (11, some []) :: (12, none) :: (13, none) :: (14, none) :: (15, none) :: (16, none) :: (17, none) :: (18, none) :: (20, none) :: (21, none) :: (22, none) :: (23, none) :: (24, none) :: (25, none) :: (26, none) :: (19, some [20, 21, 22, 23, 24, 25, 26]) :: (27, some []) :: (28, none) :: (29, none) :: []) ([]) ([]) (by decide +kernel) fun O hO => ?_; simp only [OpsAre, Nat.reduceAdd, and_true, List.toList_toArray, List.append_eq, List.cons_append, List.nil_append] at hO; simp (maxSteps := 4000000) only [↓reduceIte, Nat.reduceLT, Nat.reduceEqDiff, reduceCtorEq, Nat.reduceAdd, Nat.reduceMul, Int.reduceLE, Int.reduceLT, Int.reduceToNat, Nat.reduceLeDiff, Nat.reduceSub, Int.reduceEq, Nat.reduceBEq, List.replicate, List.set, evB, tyA, hO, iis_len, hgi, kt]; (repeat (with_reducible refine And.intro ?_ ?_; exact sdX))
      refine callVC_scal fnok21 hT rfl ?_
      simp (maxSteps := 4000000) only [↓reduceIte, Nat.reduceLT, Nat.reduceEqDiff, reduceCtorEq, Nat.reduceAdd, Nat.reduceMul, Int.reduceLE, Int.reduceLT, Int.reduceToNat, Nat.reduceLeDiff, Nat.reduceSub, Int.reduceEq, Nat.reduceBEq, List.replicate, List.set, evB, tyA, hO, nfaD, iis_len, hgi, kt]
      (repeat (with_reducible refine And.intro ?_ ?_; exact sdX))
      refine callVC_scal fnok10 hT2 rfl ?_
      simp (maxSteps := 4000000) only [↓reduceIte, Nat.reduceLT, Nat.reduceEqDiff, reduceCtorEq, Nat.reduceAdd, Nat.reduceMul, Int.reduceLE, Int.reduceLT, Int.reduceToNat, Nat.reduceLeDiff, Nat.reduceSub, Int.reduceEq, Nat.reduceBEq, List.replicate, List.set, evB, tyA, hO, dfaD, iis_len, hgi, kt]
      (repeat (with_reducible refine And.intro ?_ ?_; exact sdX))
      refine callVC_scal fnok21 hT rfl ?_
      simp (maxSteps := 4000000) only [↓reduceIte, Nat.reduceLT, Nat.reduceEqDiff, reduceCtorEq, Nat.reduceAdd, Nat.reduceMul, Int.reduceLE, Int.reduceLT, Int.reduceToNat, Nat.reduceLeDiff, Nat.reduceSub, Int.reduceEq, Nat.reduceBEq, List.replicate, List.set, evB, tyA, hO, dfaD, iis_len, hgi, kt]
      (repeat (with_reducible refine And.intro ?_ ?_; exact sdX))
      refine callVC_scal fnok22 hE rfl ?_
      simp (maxSteps := 4000000) only [↓reduceIte, Nat.reduceLT, Nat.reduceEqDiff, reduceCtorEq, Nat.reduceAdd, Nat.reduceMul, Int.reduceLE, Int.reduceLT, Int.reduceToNat, Nat.reduceLeDiff, Nat.reduceSub, Int.reduceEq, Nat.reduceBEq, List.replicate, List.set, evB, tyA, hO, kt]
      (repeat (with_reducible refine And.intro ?_ ?_; exact sdX))
      (repeat (first | refine awp_seq ?_ | refine awp_block ?_ | ((first | refine awp_skip ?_ | refine awp_exit ?_ | refine awp_reg ttok ?_ | (refine awp_draw ttok ?dr_calm ?_; (case dr_calm => decide +kernel)) | refine awp_condM ?_); simp (maxSteps := 4000000) only [↓reduceIte, Nat.reduceLT, Nat.reduceEqDiff, reduceCtorEq, Nat.reduceAdd, Nat.reduceMul, Int.reduceLE, Int.reduceLT, Int.reduceToNat, Nat.reduceLeDiff, Nat.reduceSub, Int.reduceEq, Nat.reduceBEq, List.replicate, List.set, evB, tyA, kt, hwi]; (repeat (with_reducible refine And.intro ?_ ?_; exact sdX)); (with_reducible first | refine awp_id ?_ | refine id_call ?_ | refine id_and ?_ | refine id_ex ?_ | refine id_all ?_ | refine id_nat ?_ | refine id_le ?_))))
      refine ⟨i + 1, by omega, by omega, mkS_le rfl ?_ ?_⟩
      · exact evX
      · exact evX
    · have d1 : decide ((i : Int) < (U.length : Int)) = false := by simpa using hlt
      (repeat (first | refine awp_seq ?_ | refine awp_block ?_ | ((first | refine awp_skip ?_ | refine awp_exit ?_ | refine awp_reg ttok ?_ | (refine awp_draw ttok ?dr_calm ?_; (case dr_calm => decide +kernel)) | refine awp_condM ?_); simp (maxSteps := 4000000) only [↓reduceIte, Nat.reduceLT, Nat.reduceEqDiff, reduceCtorEq, Nat.reduceAdd, Nat.reduceMul, Int.reduceLE, Int.reduceLT, Int.reduceToNat, Nat.reduceLeDiff, Nat.reduceSub, Int.reduceEq, Nat.reduceBEq, List.replicate, List.set, evB, tyA, d1, iis_len]; (repeat (with_reducible refine And.intro ?_ ?_; exact sdX)); (with_reducible first | refine awp_id ?_ | refine id_call ?_ | refine id_and ?_ | refine id_ex ?_ | refine id_all ?_ | refine id_nat ?_ | refine id_le ?_))))
      refine callVC_mk fnok16 hCl0 rfl ?_
      simp (maxSteps := 4000000) only [↓reduceIte, Nat.reduceLT, Nat.reduceEqDiff, reduceCtorEq, Nat.reduceAdd, Nat.reduceMul, Int.reduceLE, Int.reduceLT, Int.reduceToNat, Nat.reduceLeDiff, Nat.reduceSub, Int.reduceEq, Nat.reduceBEq, List.replicate, List.set, evB, tyA, nfaD]
      (repeat (with_reducible refine And.intro ?_ ?_; exact sdX))
      (repeat (first | refine awp_seq ?_ | refine awp_block ?_ | ((first | refine awp_skip ?_ | refine awp_exit ?_ | refine awp_reg ttok ?_ | (refine awp_draw ttok ?dr_calm ?_; (case dr_calm => decide +kernel)) | refine awp_condM ?_); simp (maxSteps := 4000000) only [↓reduceIte, Nat.reduceLT, Nat.reduceEqDiff, reduceCtorEq, Nat.reduceAdd, Nat.reduceMul, Int.reduceLE, Int.reduceLT, Int.reduceToNat, Nat.reduceLeDiff, Nat.reduceSub, Int.reduceEq, Nat.reduceBEq, List.replicate, List.set, evB, tyA]; (repeat (with_reducible refine And.intro ?_ ?_; exact sdX)); (with_reducible first | refine awp_id ?_ | refine id_call ?_ | refine id_and ?_ | refine id_ex ?_ | refine id_all ?_ | refine id_nat ?_ | refine id_le ?_))))
      have htr1 : iis [z] = [[.sl false (ints z)]] := rfl
      refine awp_loop (X := Nat) (fun i => mkS 162 [(7, .ptr 2004 0 0), (8, .ptr 3005 0 0), (12, .own 12005 0 (dQ L M z i).length), (13, i64 i)] [(2004, { sz := 4, rows := [[i64 L, i64 st, .sl false (bos F), .sl false (mmv M)]], flat := false }), (3005, { sz := 4, rows := [[i64 L, i64 (0 : Nat), .sl false (bos (dFin F Q)), .sl false (iis (dNx L M Q))]], flat := false }), (12005, { sz := 1, rows := iis (dQ L M z i) })]) (fun i => i ≤ (dQ L M z i).length ∧ i ≤ Q.length) (fun i => Q.length - i) 0 ⟨Nat.zero_le _, Nat.zero_le _⟩ (mkS_le rfl ?_ ?_) ?_
      · simp (maxSteps := 4000000) only [↓reduceIte, Nat.reduceLT, Nat.reduceEqDiff, reduceCtorEq, Nat.reduceAdd, Nat.reduceMul, Int.reduceLE, Int.reduceLT, Int.reduceToNat, Nat.reduceLeDiff, Nat.reduceSub, Int.reduceEq, Nat.reduceBEq, List.replicate, List.set, evB, dQ]
        try rfl
      · simp (maxSteps := 4000000) only [↓reduceIte, Nat.reduceLT, Nat.reduceEqDiff, reduceCtorEq, Nat.reduceAdd, Nat.reduceMul, Int.reduceLE, Int.reduceLT, Int.reduceToNat, Nat.reduceLeDiff, Nat.reduceSub, Int.reduceEq, Nat.reduceBEq, List.replicate, List.set, evB, dQ, htr1]
        try rfl
      · rintro i ⟨hi, hiQl⟩
        have hik := hlen (hdi i)
        by_cases hlt : i < (dQ L M z i).length
        · have d2 : decide ((i : Int) < ((dQ L M z i).length : Int)) = true := by simpa using hlt
          have hnx : dQ L M z (i + 1) = dFold M ((dQ L M z i).getD i []) (dQ L M z i) (outL L M ((dQ L M z i).getD i [])) := by rw [dQ, if_pos hlt]
          have hiQ : i < Q.length := by
            obtain ⟨u, hu⟩ := hpre (i := i) (by omega)
            rw [hu, List.length_append]; omega
          have hat := hat hiQ
          have hgq := iis_get hlt
          rw [hat] at hnx hgq
          have hrow := fun {ks ls : List Int} => hrow (ks := ks) (ls := ls) hiQ
          have hSe := hA.diQ.entry (getD_mem hiQ [])
          rw [hkl] at hSe
          have hdq := hdi i
          have hdnq := hdne i
          have hcell := fun {a : Nat} (ha : a < L) => hcell hiQ ha
          have hNl : (dNx L M Q).length = Q.length := by simp [dNx]
          have hgN := iis_get (l := dNx L M Q) (i := i) (by omega)
          have hNr := (hGok.get hiQ).1
          have e2 : decide ((i : Int) ≥ (Q.length : Int)) = false := by simp; omega
          have hout : outL L M (Q.getD i []) = onL L fun a => !(stepL M (Q.getD i []) (a : Int)).isEmpty := rfl
          generalize hqE : dQ L M z i = q at *
          generalize hSE : Q.getD i [] = S at *
          generalize hNE : (dNx L M Q).getD i [] = nr at *
          (repeat (first | refine awp_seq ?_ | refine awp_block ?_ | ((first | refine awp_skip ?_ | refine awp_exit ?_ | refine awp_reg ttok ?_ | (refine awp_draw ttok ?dr_calm ?_; (case dr_calm => decide +kernel)) | refine awp_condM ?_); simp (maxSteps := 4000000) only [↓reduceIte, Nat.reduceLT, Nat.reduceEqDiff, reduceCtorEq, Nat.reduceAdd, Nat.reduceMul, Int.reduceLE, Int.reduceLT, Int.reduceToNat, Nat.reduceLeDiff, Nat.reduceSub, Int.reduceEq, Nat.reduceBEq, List.replicate, List.set, evB, tyA, d2, iis_len, hNl, e2]; (repeat (with_reducible refine And.intro ?_ ?_; exact sdX)); (with_reducible first | refine awp_id ?_ | refine id_call ?_ | refine id_and ?_ | refine id_ex ?_ | refine id_all ?_ | refine id_nat ?_ | refine id_le ?_))))
          refine awp_loop (X := Nat) (fun a => mkS 162 [(7, .ptr 2004 0 0), (8, .ptr 3005 0 0), (12, .own 12005 0 (dFold M S q (onL a fun a => !(stepL M S (a : Int)).isEmpty)).length), (13, i64 i), (14, i64 a)] [(2004, { sz := 4, rows := [[i64 L, i64 st, .sl false (bos F), .sl false (mmv M)]], flat := false }), (3005, { sz := 4, rows := [[i64 L, i64 (0 : Nat), .sl false (bos (dFin F Q)), .sl false (iis (dNx L M Q))]], flat := false }), (12005, { sz := 1, rows := iis (dFold M S q (onL a fun a => !(stepL M S (a : Int)).isEmpty)) })]) (fun a => a ≤ L) (fun a => L - a) 0 (Nat.zero_le _) (mkS_le rfl ?_ ?_) ?_
          · simp (maxSteps := 4000000) only [↓reduceIte, Nat.reduceLT, Nat.reduceEqDiff, reduceCtorEq, Nat.reduceAdd, Nat.reduceMul, Int.reduceLE, Int.reduceLT, Int.reduceToNat, Nat.reduceLeDiff, Nat.reduceSub, Int.reduceEq, Nat.reduceBEq, List.replicate, List.set, evB, onL, List.range_zero, List.filter_nil, List.map_nil, dFold]
            try rfl
          · simp (maxSteps := 4000000) only [↓reduceIte, Nat.reduceLT, Nat.reduceEqDiff, reduceCtorEq, Nat.reduceAdd, Nat.reduceMul, Int.reduceLE, Int.reduceLT, Int.reduceToNat, Nat.reduceLeDiff, Nat.reduceSub, Int.reduceEq, Nat.reduceBEq, List.replicate, List.set, evB, onL, List.range_zero, List.filter_nil, List.map_nil, dFold]
            try rfl
          · intro a ha
            by_cases halt : a < L
            · have d3 : decide ((a : Int) < (L : Int)) = true := by simpa using halt
              have hwa : IntKind.i64.wrap ((a : Int) + 1) = ((a + 1 : Nat) : Int) := i64_in (by omega) (by omega)
              have hsn := onL_succ a fun a => !(stepL M S (a : Int)).isEmpty
              have hcl := hcell halt
              have hgc := ints_get (l := nr) (i := a) (by omega)
              rw [hcl] at hgc
              have hpI := hdq.fold S (onL a fun a => !(stepL M S (a : Int)).isEmpty)
              have hpne := fold_ne hok (S := S) (q := q) (onL a fun a => !(stepL M S (a : Int)).isEmpty) (fun b hb => by
                obtain ⟨y, rfl, _, hy⟩ := onL_mem.1 hb
                simpa using hy) hdnq
              have hpl := hlen hpI
              have hSt := c_RStep hok ⟨by omega, by omega⟩ st F false S (by omega) hR (a : Int)
              have hsl : (stepL M S (a : Int)).length ≤ M.length := onL_len _ _
              have hCl := c_RClose hok ⟨by omega, by omega⟩ st F false (stepL M S (a : Int)) (by omega) hR
              have hdT : dTo M S (a : Int) = cloL M (stepL M S (a : Int)) := rfl
              have hemp := dTo_ne hok (S := S) (a := (a : Int))
              have hTl : (dTo M S (a : Int)).length ≤ M.length := onL_len _ _
              have hnum : dNum M Q S (a : Int) = if (stepL M S (a : Int)).isEmpty = true then -1 else ((Q.idxOf (dTo M S (a : Int)) : Nat) : Int) := rfl
              have hfs : (stepL M S (a : Int)).isEmpty = false → dFold M S q (onL (a + 1) fun a => !(stepL M S (a : Int)).isEmpty) = addQ (dFold M S q (onL a fun a => !(stepL M S (a : Int)).isEmpty)) (dTo M S (a : Int)) := fun he => by
                rw [hsn, if_pos (by rw [he]; rfl), dFold_snoc]
              have hfe : (stepL M S (a : Int)).isEmpty = true → dFold M S q (onL (a + 1) fun a => !(stepL M S (a : Int)).isEmpty) = dFold M S q (onL a fun a => !(stepL M S (a : Int)).isEmpty) := fun he => by
                rw [hsn, if_neg (by rw [he]; simp), List.append_nil]
              have hQp : (stepL M S (a : Int)).isEmpty = false → ((Q.idxOf (dTo M S (a : Int)) : Nat) : Int) = (((addQ (dFold M S q (onL a fun a => !(stepL M S (a : Int)).isEmpty)) (dTo M S (a : Int))).idxOf (dTo M S (a : Int)) : Nat) : Int) := fun he => by
                obtain ⟨ls, hls⟩ : ∃ ls, outL L M S = onL (a + 1) (fun a => !(stepL M S (a : Int)).isEmpty) ++ ls := by
                  rw [hout]
                  exact onL_pre _ (by omega)
                obtain ⟨u, hu⟩ := hrow hls
                rw [hu, hfs he, List.idxOf_append, if_pos (addQ_has _ _)]
              rw [← hdT] at hCl
              generalize (stepL M S (a : Int)).isEmpty = em at *
              generalize dTo M S (a : Int) = T at *
              obtain ⟨p, hpE⟩ : ∃ p, dFold M S q (onL a fun a => !(stepL M S (a : Int)).isEmpty) = p := ⟨_, rfl⟩
              rw [hpE] at hpI hpne hpl hfs hfe hQp ⊢
              have hgp : (iis p).getD i [] = [.sl false (ints S)] := by
                obtain ⟨v, hv⟩ := dFold_pre M S (onL a fun a => !(stepL M S (a : Int)).isEmpty) q
                rw [← hpE, hv, ← iis_app, getD_app_lt (by rw [iis_len]; exact hlt)]
                exact hgq
              have hip : i < p.length := by
                obtain ⟨v, hv⟩ := dFold_pre M S (onL a fun a => !(stepL M S (a : Int)).isEmpty) q
                rw [← hpE, hv, List.length_append]; omega
              (repeat (first | refine awp_seq ?_ | refine awp_block ?_ | ((first | refine awp_skip ?_ | refine awp_exit ?_ | refine awp_reg ttok ?_ | (refine awp_draw ttok ?dr_calm ?_; (case dr_calm => decide +kernel)) | refine awp_condM ?_); simp (maxSteps := 4000000) only [↓reduceIte, Nat.reduceLT, Nat.reduceEqDiff, reduceCtorEq, Nat.reduceAdd, Nat.reduceMul, Int.reduceLE, Int.reduceLT, Int.reduceToNat, Nat.reduceLeDiff, Nat.reduceSub, Int.reduceEq, Nat.reduceBEq, List.replicate, List.set, evB, tyA, d3]; (repeat (with_reducible refine And.intro ?_ ?_; exact sdX)); (with_reducible first | refine awp_id ?_ | refine id_call ?_ | refine id_and ?_ | refine id_ex ?_ | refine id_all ?_ | refine id_nat ?_ | refine id_le ?_))))
              refine awp_drawG ttok ((0, none) :: (1, none) :: (2, none) :: (3, none) :: (4, none) :: (5, none) :: (6, none) :: (7, some [0]) :: (8, some []) :: (9, none) :: []) ([]) ([]) (by decide +kernel) fun O hO => ?_; simp only [OpsAre, Nat.reduceAdd, and_true, List.toList_toArray, List.append_eq, List.cons_append, List.nil_append] at hO; simp (maxSteps := 4000000) only [↓reduceIte, Nat.reduceLT, Nat.reduceEqDiff, reduceCtorEq, Nat.reduceAdd, Nat.reduceMul, Int.reduceLE, Int.reduceLT, Int.reduceToNat, Nat.reduceLeDiff, Nat.reduceSub, Int.reduceEq, Nat.reduceBEq, List.replicate, List.set, evB, tyA, hO, nfaD, iis_len, hgp]; (repeat (with_reducible refine And.intro ?_ ?_; exact sdX))
              refine callVC_mk fnok12 hSt rfl ?_
              simp (maxSteps := 4000000) only [↓reduceIte, Nat.reduceLT, Nat.reduceEqDiff, reduceCtorEq, Nat.reduceAdd, Nat.reduceMul, Int.reduceLE, Int.reduceLT, Int.reduceToNat, Nat.reduceLeDiff, Nat.reduceSub, Int.reduceEq, Nat.reduceBEq, List.replicate, List.set, evB, tyA, hO, nfaD, iis_len, hgp]
              (repeat (with_reducible refine And.intro ?_ ?_; exact sdX))
              refine callVC_mk fnok16 hCl rfl ?_
              simp (maxSteps := 4000000) only [↓reduceIte, Nat.reduceLT, Nat.reduceEqDiff, reduceCtorEq, Nat.reduceAdd, Nat.reduceMul, Int.reduceLE, Int.reduceLT, Int.reduceToNat, Nat.reduceLeDiff, Nat.reduceSub, Int.reduceEq, Nat.reduceBEq, List.replicate, List.set, evB, tyA, hO, nfaD]
              (repeat (with_reducible refine And.intro ?_ ?_; exact sdX))
              (repeat (first | refine awp_seq ?_ | refine awp_block ?_ | ((first | refine awp_skip ?_ | refine awp_exit ?_ | refine awp_reg ttok ?_ | (refine awp_draw ttok ?dr_calm ?_; (case dr_calm => decide +kernel)) | refine awp_condM ?_); simp (maxSteps := 4000000) only [↓reduceIte, Nat.reduceLT, Nat.reduceEqDiff, reduceCtorEq, Nat.reduceAdd, Nat.reduceMul, Int.reduceLE, Int.reduceLT, Int.reduceToNat, Nat.reduceLeDiff, Nat.reduceSub, Int.reduceEq, Nat.reduceBEq, List.replicate, List.set, evB, tyA]; (repeat (with_reducible refine And.intro ?_ ?_; exact sdX)); (with_reducible first | refine awp_id ?_ | refine id_call ?_ | refine id_and ?_ | refine id_ex ?_ | refine id_all ?_ | refine id_nat ?_ | refine id_le ?_))))
              refine awp_loop (X := Nat) (fun j => mkS 162 [(7, .ptr 2004 0 0), (8, .ptr 3005 0 0), (12, .own 12005 0 p.length), (13, i64 i), (14, i64 a), (15, .sl false (ints T)), (16, i64 (atJ p T j)), (17, i64 j)] [(2004, { sz := 4, rows := [[i64 L, i64 st, .sl false (bos F), .sl false (mmv M)]], flat := false }), (3005, { sz := 4, rows := [[i64 L, i64 (0 : Nat), .sl false (bos (dFin F Q)), .sl false (iis (dNx L M Q))]], flat := false }), (12005, { sz := 1, rows := iis p })]) (fun j => j ≤ p.length) (fun j => p.length - j) 0 (Nat.zero_le _) (mkS_le rfl ?_ ?_) ?_
              · simp (maxSteps := 4000000) only [↓reduceIte, Nat.reduceLT, Nat.reduceEqDiff, reduceCtorEq, Nat.reduceAdd, Nat.reduceMul, Int.reduceLE, Int.reduceLT, Int.reduceToNat, Nat.reduceLeDiff, Nat.reduceSub, Int.reduceEq, Nat.reduceBEq, List.replicate, List.set, evB, atJ_zero]
                try rfl
              · simp (maxSteps := 4000000) only [↓reduceIte, Nat.reduceLT, Nat.reduceEqDiff, reduceCtorEq, Nat.reduceAdd, Nat.reduceMul, Int.reduceLE, Int.reduceLT, Int.reduceToNat, Nat.reduceLeDiff, Nat.reduceSub, Int.reduceEq, Nat.reduceBEq, List.replicate, List.set, evB]
                try rfl
              · intro j hj
                by_cases hjlt : j < p.length
                · have d4 : decide ((j : Int) < (p.length : Int)) = true := by simpa using hjlt
                  have hwj : IntKind.i64.wrap ((j : Int) + 1) = ((j + 1 : Nat) : Int) := i64_in (by omega) (by omega)
                  have hgj := iis_get hjlt
                  have hy := atJ_yes hpI.nd (T := T) hjlt
                  have hn := atJ_no (T := T) hjlt
                  have hje := (hpI.entry (getD_mem hjlt [])).1
                  generalize p.getD j [] = V at *
                  have hsm := c_Same false false V T (by omega)
                  by_cases e : V = T
                  · have hb : (V == T) = true := by simpa using e
                    rw [hb] at hsm
                    have hy := hy e
                    (repeat (first | refine awp_seq ?_ | refine awp_block ?_ | ((first | refine awp_skip ?_ | refine awp_exit ?_ | refine awp_reg ttok ?_ | (refine awp_draw ttok ?dr_calm ?_; (case dr_calm => decide +kernel)) | refine awp_condM ?_); simp (maxSteps := 4000000) only [↓reduceIte, Nat.reduceLT, Nat.reduceEqDiff, reduceCtorEq, Nat.reduceAdd, Nat.reduceMul, Int.reduceLE, Int.reduceLT, Int.reduceToNat, Nat.reduceLeDiff, Nat.reduceSub, Int.reduceEq, Nat.reduceBEq, List.replicate, List.set, evB, tyA, d4, iis_len, hgj]; (repeat (with_reducible refine And.intro ?_ ?_; exact sdX)); (with_reducible first | refine awp_id ?_ | refine id_call ?_ | refine id_and ?_ | refine id_ex ?_ | refine id_all ?_ | refine id_nat ?_ | refine id_le ?_))))
                    refine callVC_scal fnok13 hsm rfl ?_
                    simp (maxSteps := 4000000) only [↓reduceIte, Nat.reduceLT, Nat.reduceEqDiff, reduceCtorEq, Nat.reduceAdd, Nat.reduceMul, Int.reduceLE, Int.reduceLT, Int.reduceToNat, Nat.reduceLeDiff, Nat.reduceSub, Int.reduceEq, Nat.reduceBEq, List.replicate, List.set, evB, tyA]
                    (repeat (with_reducible refine And.intro ?_ ?_; exact sdX))
                    (repeat (first | refine awp_seq ?_ | refine awp_block ?_ | ((first | refine awp_skip ?_ | refine awp_exit ?_ | refine awp_reg ttok ?_ | (refine awp_draw ttok ?dr_calm ?_; (case dr_calm => decide +kernel)) | refine awp_condM ?_); simp (maxSteps := 4000000) only [↓reduceIte, Nat.reduceLT, Nat.reduceEqDiff, reduceCtorEq, Nat.reduceAdd, Nat.reduceMul, Int.reduceLE, Int.reduceLT, Int.reduceToNat, Nat.reduceLeDiff, Nat.reduceSub, Int.reduceEq, Nat.reduceBEq, List.replicate, List.set, evB, tyA, hwj]; (repeat (with_reducible refine And.intro ?_ ?_; exact sdX)); (with_reducible first | refine awp_id ?_ | refine id_call ?_ | refine id_and ?_ | refine id_ex ?_ | refine id_all ?_ | refine id_nat ?_ | refine id_le ?_))))
                    refine ⟨j + 1, by omega, by omega, mkS_le rfl ?_ ?_⟩
                    · simp (maxSteps := 4000000) only [↓reduceIte, Nat.reduceLT, Nat.reduceEqDiff, reduceCtorEq, Nat.reduceAdd, Nat.reduceMul, Int.reduceLE, Int.reduceLT, Int.reduceToNat, Nat.reduceLeDiff, Nat.reduceSub, Int.reduceEq, Nat.reduceBEq, List.replicate, List.set, evB, hy]
                    · exact evX
                  · have hb : (V == T) = false := by simpa using e
                    rw [hb] at hsm
                    have hn := hn e
                    (repeat (first | refine awp_seq ?_ | refine awp_block ?_ | ((first | refine awp_skip ?_ | refine awp_exit ?_ | refine awp_reg ttok ?_ | (refine awp_draw ttok ?dr_calm ?_; (case dr_calm => decide +kernel)) | refine awp_condM ?_); simp (maxSteps := 4000000) only [↓reduceIte, Nat.reduceLT, Nat.reduceEqDiff, reduceCtorEq, Nat.reduceAdd, Nat.reduceMul, Int.reduceLE, Int.reduceLT, Int.reduceToNat, Nat.reduceLeDiff, Nat.reduceSub, Int.reduceEq, Nat.reduceBEq, List.replicate, List.set, evB, tyA, d4, iis_len, hgj]; (repeat (with_reducible refine And.intro ?_ ?_; exact sdX)); (with_reducible first | refine awp_id ?_ | refine id_call ?_ | refine id_and ?_ | refine id_ex ?_ | refine id_all ?_ | refine id_nat ?_ | refine id_le ?_))))
                    refine callVC_scal fnok13 hsm rfl ?_
                    simp (maxSteps := 4000000) only [↓reduceIte, Nat.reduceLT, Nat.reduceEqDiff, reduceCtorEq, Nat.reduceAdd, Nat.reduceMul, Int.reduceLE, Int.reduceLT, Int.reduceToNat, Nat.reduceLeDiff, Nat.reduceSub, Int.reduceEq, Nat.reduceBEq, List.replicate, List.set, evB, tyA]
                    (repeat (with_reducible refine And.intro ?_ ?_; exact sdX))
                    (repeat (first | refine awp_seq ?_ | refine awp_block ?_ | ((first | refine awp_skip ?_ | refine awp_exit ?_ | refine awp_reg ttok ?_ | (refine awp_draw ttok ?dr_calm ?_; (case dr_calm => decide +kernel)) | refine awp_condM ?_); simp (maxSteps := 4000000) only [↓reduceIte, Nat.reduceLT, Nat.reduceEqDiff, reduceCtorEq, Nat.reduceAdd, Nat.reduceMul, Int.reduceLE, Int.reduceLT, Int.reduceToNat, Nat.reduceLeDiff, Nat.reduceSub, Int.reduceEq, Nat.reduceBEq, List.replicate, List.set, evB, tyA, hwj]; (repeat (with_reducible refine And.intro ?_ ?_; exact sdX)); (with_reducible first | refine awp_id ?_ | refine id_call ?_ | refine id_and ?_ | refine id_ex ?_ | refine id_all ?_ | refine id_nat ?_ | refine id_le ?_))))
                    refine ⟨j + 1, by omega, by omega, mkS_le rfl ?_ ?_⟩
                    · simp (maxSteps := 4000000) only [↓reduceIte, Nat.reduceLT, Nat.reduceEqDiff, reduceCtorEq, Nat.reduceAdd, Nat.reduceMul, Int.reduceLE, Int.reduceLT, Int.reduceToNat, Nat.reduceLeDiff, Nat.reduceSub, Int.reduceEq, Nat.reduceBEq, List.replicate, List.set, evB, hn]
                    · exact evX
                · have d4 : decide ((j : Int) < (p.length : Int)) = false := by simpa using hjlt
                  obtain rfl : j = p.length := by omega
                  rw [atJ_all]
                  have hpt : List.take p.length p = p := List.take_of_length_le (Nat.le_refl _)
                  have hr2 : ∀ z : List Int, (∀ row ∈ [[D.sl false (ints z)]], row.length = 1) = True := fun z => by simp
                  have kx : ∀ x : Int, (x != x) = false := fun x => by simp
                  cases he : em
                  · rw [he] at hemp hnum
                    have hfs := hfs he
                    have hQp := hQp he
                    rw [if_neg (by simp)] at hnum
                    have hT0 : decide ((T.length : Int) > 0) = true := by
                      cases T with
                      | nil => cases hemp
                      | cons x t => simp
                    cases hcn : p.contains T
                    · have hadd : addQ p T = p ++ [T] := by unfold addQ; rw [hcn, if_neg (by simp)]
                      have hix : (p ++ [T]).idxOf T = p.length := by
                        rw [List.idxOf_append, if_neg (by simpa using hcn)]
                        simp
                      rw [hadd] at hfs hQp
                      rw [hix] at hQp
                      rw [hQp] at hnum
                      rw [hnum] at hgc
                      have m1 : decide ((-1 : Int) < 0) = true := rfl
                      rw [if_neg (by simp)]
                      (repeat (first | refine awp_seq ?_ | refine awp_block ?_ | ((first | refine awp_skip ?_ | refine awp_exit ?_ | refine awp_reg ttok ?_ | (refine awp_draw ttok ?dr_calm ?_; (case dr_calm => decide +kernel)) | refine awp_condM ?_); simp (maxSteps := 4000000) only [↓reduceIte, Nat.reduceLT, Nat.reduceEqDiff, reduceCtorEq, Nat.reduceAdd, Nat.reduceMul, Int.reduceLE, Int.reduceLT, Int.reduceToNat, Nat.reduceLeDiff, Nat.reduceSub, Int.reduceEq, Nat.reduceBEq, List.replicate, List.set, evB, tyA, d4, iis_len, ints_len, hT0, m1, iis_take, hpt, hr2, hNl, hgN, hNr, hgc, kx, hwa]; (repeat (with_reducible refine And.intro ?_ ?_; exact sdX)); (with_reducible first | refine awp_id ?_ | refine id_call ?_ | refine id_and ?_ | refine id_ex ?_ | refine id_all ?_ | refine id_nat ?_ | refine id_le ?_))))
                      refine ⟨a + 1, by omega, by omega, mkS_le rfl ?_ ?_⟩
                      · simp (maxSteps := 4000000) only [↓reduceIte, Nat.reduceLT, Nat.reduceEqDiff, reduceCtorEq, Nat.reduceAdd, Nat.reduceMul, Int.reduceLE, Int.reduceLT, Int.reduceToNat, Nat.reduceLeDiff, Nat.reduceSub, Int.reduceEq, Nat.reduceBEq, List.replicate, List.set, evB, hfs, List.length_append]
                        try rfl
                      · simp (maxSteps := 4000000) only [↓reduceIte, Nat.reduceLT, Nat.reduceEqDiff, reduceCtorEq, Nat.reduceAdd, Nat.reduceMul, Int.reduceLE, Int.reduceLT, Int.reduceToNat, Nat.reduceLeDiff, Nat.reduceSub, Int.reduceEq, Nat.reduceBEq, List.replicate, List.set, evB, hfs, iis_take, hpt, iis_one, iis_app]
                    · have hadd : addQ p T = p := by unfold addQ; rw [hcn, if_pos rfl]
                      rw [hadd] at hfs hQp
                      rw [hQp] at hnum
                      rw [hnum] at hgc
                      have m1 : decide (((p.idxOf T : Nat) : Int) < 0) = false := by simp
                      rw [if_pos rfl]
                      (repeat (first | refine awp_seq ?_ | refine awp_block ?_ | ((first | refine awp_skip ?_ | refine awp_exit ?_ | refine awp_reg ttok ?_ | (refine awp_draw ttok ?dr_calm ?_; (case dr_calm => decide +kernel)) | refine awp_condM ?_); simp (maxSteps := 4000000) only [↓reduceIte, Nat.reduceLT, Nat.reduceEqDiff, reduceCtorEq, Nat.reduceAdd, Nat.reduceMul, Int.reduceLE, Int.reduceLT, Int.reduceToNat, Nat.reduceLeDiff, Nat.reduceSub, Int.reduceEq, Nat.reduceBEq, List.replicate, List.set, evB, tyA, d4, iis_len, ints_len, hT0, m1, hNl, hgN, hNr, hgc, kx, hwa]; (repeat (with_reducible refine And.intro ?_ ?_; exact sdX)); (with_reducible first | refine awp_id ?_ | refine id_call ?_ | refine id_and ?_ | refine id_ex ?_ | refine id_all ?_ | refine id_nat ?_ | refine id_le ?_))))
                      refine ⟨a + 1, by omega, by omega, mkS_le rfl ?_ ?_⟩
                      · simp (maxSteps := 4000000) only [↓reduceIte, Nat.reduceLT, Nat.reduceEqDiff, reduceCtorEq, Nat.reduceAdd, Nat.reduceMul, Int.reduceLE, Int.reduceLT, Int.reduceToNat, Nat.reduceLeDiff, Nat.reduceSub, Int.reduceEq, Nat.reduceBEq, List.replicate, List.set, evB, hfs]
                        try rfl
                      · simp (maxSteps := 4000000) only [↓reduceIte, Nat.reduceLT, Nat.reduceEqDiff, reduceCtorEq, Nat.reduceAdd, Nat.reduceMul, Int.reduceLE, Int.reduceLT, Int.reduceToNat, Nat.reduceLeDiff, Nat.reduceSub, Int.reduceEq, Nat.reduceBEq, List.replicate, List.set, evB, hfs]
                  · rw [he] at hemp hnum
                    have hfe := hfe he
                    rw [if_pos rfl] at hnum
                    rw [hnum] at hgc
                    have hTe : T = [] := by
                      cases T with
                      | nil => rfl
                      | cons x t => cases hemp
                    have hcn : p.contains T = false := by
                      cases hq : p.contains T
                      · rfl
                      · exact absurd hTe (hpne T (by simpa using hq))
                    have hT0 : decide ((T.length : Int) > 0) = false := by rw [hTe]; rfl
                    rw [hcn, if_neg (by simp)]
                    (repeat (first | refine awp_seq ?_ | refine awp_block ?_ | ((first | refine awp_skip ?_ | refine awp_exit ?_ | refine awp_reg ttok ?_ | (refine awp_draw ttok ?dr_calm ?_; (case dr_calm => decide +kernel)) | refine awp_condM ?_); simp (maxSteps := 4000000) only [↓reduceIte, Nat.reduceLT, Nat.reduceEqDiff, reduceCtorEq, Nat.reduceAdd, Nat.reduceMul, Int.reduceLE, Int.reduceLT, Int.reduceToNat, Nat.reduceLeDiff, Nat.reduceSub, Int.reduceEq, Nat.reduceBEq, List.replicate, List.set, evB, tyA, d4, iis_len, ints_len, hT0, hNl, hgN, hNr, hgc, kx, hwa]; (repeat (with_reducible refine And.intro ?_ ?_; exact sdX)); (with_reducible first | refine awp_id ?_ | refine id_call ?_ | refine id_and ?_ | refine id_ex ?_ | refine id_all ?_ | refine id_nat ?_ | refine id_le ?_))))
                    refine ⟨a + 1, by omega, by omega, mkS_le rfl ?_ ?_⟩
                    · simp (maxSteps := 4000000) only [↓reduceIte, Nat.reduceLT, Nat.reduceEqDiff, reduceCtorEq, Nat.reduceAdd, Nat.reduceMul, Int.reduceLE, Int.reduceLT, Int.reduceToNat, Nat.reduceLeDiff, Nat.reduceSub, Int.reduceEq, Nat.reduceBEq, List.replicate, List.set, evB, hfe]
                      try rfl
                    · simp (maxSteps := 4000000) only [↓reduceIte, Nat.reduceLT, Nat.reduceEqDiff, reduceCtorEq, Nat.reduceAdd, Nat.reduceMul, Int.reduceLE, Int.reduceLT, Int.reduceToNat, Nat.reduceLeDiff, Nat.reduceSub, Int.reduceEq, Nat.reduceBEq, List.replicate, List.set, evB, hfe]
            · have d3 : decide ((a : Int) < (L : Int)) = false := by simpa using halt
              obtain rfl : L = a := by omega
              rw [← hout, ← hnx]
              have hwi : IntKind.i64.wrap ((i : Int) + 1) = ((i + 1 : Nat) : Int) := i64_in (by omega) (by omega)
              have hl1 : i + 1 ≤ (dQ L M z (i + 1)).length := by
                obtain ⟨u, hu⟩ := dQ_pre L M z i
                rw [hu, hqE, List.length_append]; omega
              (repeat (first | refine awp_seq ?_ | refine awp_block ?_ | ((first | refine awp_skip ?_ | refine awp_exit ?_ | refine awp_reg ttok ?_ | (refine awp_draw ttok ?dr_calm ?_; (case dr_calm => decide +kernel)) | refine awp_condM ?_); simp (maxSteps := 4000000) only [↓reduceIte, Nat.reduceLT, Nat.reduceEqDiff, reduceCtorEq, Nat.reduceAdd, Nat.reduceMul, Int.reduceLE, Int.reduceLT, Int.reduceToNat, Nat.reduceLeDiff, Nat.reduceSub, Int.reduceEq, Nat.reduceBEq, List.replicate, List.set, evB, tyA, d3, hwi]; (repeat (with_reducible refine And.intro ?_ ?_; exact sdX)); (with_reducible first | refine awp_id ?_ | refine id_call ?_ | refine id_and ?_ | refine id_ex ?_ | refine id_all ?_ | refine id_nat ?_ | refine id_le ?_))))
              refine ⟨i + 1, ⟨hl1, by omega⟩, by omega, mkS_le rfl ?_ ?_⟩
              · exact evX
              · exact evX
        · have d2 : decide ((i : Int) < ((dQ L M z i).length : Int)) = false := by simpa using hlt
          have hQe := hend (i := i) (by omega) hlt
          have hNl : (dNx L M Q).length = Q.length := by simp [dNx]
          have kx : ((Q.length : Int) == (Q.length : Int)) = true := by simp
          rw [hQe] at d2 ⊢
          (repeat (first | refine awp_seq ?_ | refine awp_block ?_ | ((first | refine awp_skip ?_ | refine awp_exit ?_ | refine awp_reg ttok ?_ | (refine awp_draw ttok ?dr_calm ?_; (case dr_calm => decide +kernel)) | refine awp_condM ?_); simp (maxSteps := 4000000) only [↓reduceIte, Nat.reduceLT, Nat.reduceEqDiff, reduceCtorEq, Nat.reduceAdd, Nat.reduceMul, Int.reduceLE, Int.reduceLT, Int.reduceToNat, Nat.reduceLeDiff, Nat.reduceSub, Int.reduceEq, Nat.reduceBEq, List.replicate, List.set, evB, tyA, d2, iis_len]; (repeat (with_reducible refine And.intro ?_ ?_; exact sdX)); (with_reducible first | refine awp_id ?_ | refine id_call ?_ | refine id_and ?_ | refine id_ex ?_ | refine id_all ?_ | refine id_nat ?_ | refine id_le ?_))))
          refine callVC_scal fnok23 c_awake19 rfl ?_
          simp (maxSteps := 4000000) only [↓reduceIte, Nat.reduceLT, Nat.reduceEqDiff, reduceCtorEq, Nat.reduceAdd, Nat.reduceMul, Int.reduceLE, Int.reduceLT, Int.reduceToNat, Nat.reduceLeDiff, Nat.reduceSub, Int.reduceEq, Nat.reduceBEq, List.replicate, List.set, evB, tyA, iis_len, hNl, kx]
          (repeat (with_reducible refine And.intro ?_ ?_; exact sdX))
          (repeat (first | refine awp_seq ?_ | refine awp_block ?_ | ((first | refine awp_skip ?_ | refine awp_exit ?_ | refine awp_reg ttok ?_ | (refine awp_draw ttok ?dr_calm ?_; (case dr_calm => decide +kernel)) | refine awp_condM ?_); simp (maxSteps := 4000000) only [↓reduceIte, Nat.reduceLT, Nat.reduceEqDiff, reduceCtorEq, Nat.reduceAdd, Nat.reduceMul, Int.reduceLE, Int.reduceLT, Int.reduceToNat, Nat.reduceLeDiff, Nat.reduceSub, Int.reduceEq, Nat.reduceBEq, List.replicate, List.set, evB, tyA, iis_len, hNl, kx]; (repeat (with_reducible refine And.intro ?_ ?_; exact sdX)); (with_reducible first | refine awp_id ?_ | refine id_call ?_ | refine id_and ?_ | refine id_ex ?_ | refine id_all ?_ | refine id_nat ?_ | refine id_le ?_))))
          exact awp_ret (ends_plain (.inr rfl) rfl evX)
end Go.Proofs.Ytbhjmioegdgpnaa
namespace Go.Proofs.Ytbhjmioegdgpnaa.detSame
open Go.ChangeShapes Go.WideShapes Go.ChangeAt Go.RowKit
open Go.Ab
theorem own : ownKnob Try.prog.godebug = none := by kernel_rfl
theorem laidOut : laidOutB Try.prog = true := by kernel_rfl
set_option maxRecDepth 100000 in
theorem lifted (os : Os) (started : os.Started) (H : Type) (enc : TypeId × Value → H) :
    ReturnsInHanded {} Try.checked os 5 .any (Rows.detSameSpec.pre6 enc Try.prog Try.f5 Rows.detSameRow.domain false) (Rows.detSameSpec.post enc Try.prog Try.f5 false true false false) := by
  refine returnsInHanded_of_change (C := Try.checked) own started (by kernel_rfl) Try.func5
    (ChangeSpec.witness6 (enc := enc) (C := Try.checked) false ⟨#[], #[.slice none 0 0, .int .i64 0, .agg #[.int .i64 0, .int .i64 0]], []⟩ 8 (by kernel_rfl) (by kernel_rfl) (by kernel_rfl) (by kernel_rfl)) ?_
  intro W base args ds gs before hval0 hW hcnd _
  have hval : ∀ (j : Nat) t v, Try.f5.params[j]? = some t → args[j]? = some v → Value.okWide Try.prog W .any base t v := hval0
  have hW' := hW
  obtain ⟨p, q, hA0, hV, rfl, hfz, hnd⟩ := hW
  have hA : DataW.TrodAll enc Try.prog W 0 (fun _ => true) true Try.f5.params.toList args.toList ds p := hA0
  rw [Try.params5] at hA hval
  obtain ⟨v0, vs0, d0, ds0, p0, q0, hargs, rfl, rfl, k0, r0⟩ := trodAll_cons hA
  obtain ⟨v1, vs1, d1, ds1, p1, q1, rfl, rfl, rfl, k1, r1⟩ := trodAll_cons r0
  obtain ⟨v2, vs2, d2, ds2, p2, q2, rfl, rfl, rfl, k2, r2⟩ := trodAll_cons r1
  obtain ⟨rfl, rfl, rfl⟩ := trodAll_nil r2
  obtain rfl : args = #[v0, v1, v2] := by cases args; simp_all
  obtain ⟨rfl, rfl⟩ := trodVars_none hV
  obtain ⟨a0, h0, e0⟩ := opensArg_slice Try.underlying22 (opens_slice Try.underlying22 (opens_arr3i Try.underlying53 (by kernel_rfl) (by kernel_rfl) Try.underlying3) (fun a => by kernel_rfl) (by decide +kernel)) H enc W base v0 d0 p0 (hval 0 _ v0 rfl rfl) k0
  obtain ⟨a1, h1, e1⟩ := opensArg_int Try.underlying3 (opens_i64 Try.underlying3) H enc W base v1 d1 p1 (hval 1 _ v1 rfl rfl) k1
  obtain ⟨a2, h2, e2⟩ := opensArg_agg Try.underlying23 rfl (opens_arr2i Try.underlying23 (by kernel_rfl) (by kernel_rfl) Try.underlying3) H enc W base v2 d2 p2 (hval 2 _ v2 rfl rfl) k2
  refine (law_walk (c_DetSame false a0 a1 a2.1 a2.2 h0.1) (vs := [v0, v1, v2]) ⟨e0, e1, e2, trivial⟩).mono fun e W' ⟨he, bel⟩ => ?_
  subst he
  exact ⟨_, rfl, law_end hW' rfl bel rfl rfl rfl rfl Try.underlying4 laidOut (by kernel_rfl)⟩
theorem proved : Rows.DetSameSaid :=
  OpenClaim.holds_of_wide 5 Try.f5 rfl rfl rfl rfl rfl rfl rfl ⟨rfl, rfl, rfl, rfl, rfl⟩ rfl rfl rfl rfl rfl (by kernel_rfl) Try.func5 (by kernel_rfl)
    (of_decide_eq_true (by kernel_rfl)) (by unfold Func.isWrapper; first | (rw [if_pos (by decide +kernel)]; kernel_rfl) | (rw [if_neg (by decide +kernel)]; exact ⟨rfl, rfl⟩))
    (fun os started H enc _ => lifted os started H enc)
#print axioms proved
end Go.Proofs.Ytbhjmioegdgpnaa.detSame
