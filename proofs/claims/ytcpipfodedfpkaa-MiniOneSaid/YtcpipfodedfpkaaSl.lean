import Derived.Test.YtcpipfodedfpkaaAbS
import Derived.Test.YtcpipfodedfpkaaRm
import Derived.Test.YtcpipfodedfpkaaProg
import Derived.Ground.NamesProg
import Derived.Ground.Names2Prog
import Derived.Shelf.Sort.Plain
import Derived.Shelf.Slices.In.SortNone
import Derived.Shelf.Slices.CompactI
import Derived.Test.YtcpipfodedfpkaaRn
import Derived.Test.YtcpipfodedfpkaaOl
import Derived.Test.YtcpipfodedfpkaaMay
import Derived.Test.YtcpipfodedfpkaaFin
import Derived.Test.YtcpipfodedfpkaaTy
set_option linter.unusedSimpArgs false
set_option linter.unusedVariables false
namespace Go.Proofs
open Go.Shelf
def Try.laysSort_ren : Go.Shelf.Ren := ⟨fun | 189 => 87 | 125 => 96 | 257 => 95 | 128 => 107 | 129 => 108 | 294 => 98 | 295 => 99 | 296 => 100 | 297 => 101 | 298 => 102 | 299 => 103 | 216 => 104 | 300 => 105 | 301 => 106 | 328 => 109 | 329 => 110 | 330 => 111 | 331 => 112 | 332 => 113 | 215 => 114 | 343 => 115 | n => n, fun | 28 => 40 | 3 => 3 | 46 => 60 | 0 => 0 | 51 => 140 | 53 => 142 | 4 => 4 | 183 => 133 | 182 => 132 | 131 => 111 | 5 => 5 | 9 => 9 | 218 => 143 | 222 => 147 | 228 => 149 | 229 => 150 | n => n, fun | n => n⟩
theorem Try.laysSort : Go.Proofs.Lays.n189 Try.prog Try.laysSort_ren := {
  mixed := by kernel_rfl
  f125 := Try.func96.trans (congrArg some (by kernel_rfl))
  f128 := Try.func107.trans (congrArg some (by kernel_rfl))
  f129 := Try.func108.trans (congrArg some (by kernel_rfl))
  f189 := Try.func87.trans (congrArg some (by kernel_rfl))
  f215 := Try.func114.trans (congrArg some (by kernel_rfl))
  f216 := Try.func104.trans (congrArg some (by kernel_rfl))
  f257 := Try.func95.trans (congrArg some (by kernel_rfl))
  f294 := Try.func98.trans (congrArg some (by kernel_rfl))
  f295 := Try.func99.trans (congrArg some (by kernel_rfl))
  f296 := Try.func100.trans (congrArg some (by kernel_rfl))
  f297 := Try.func101.trans (congrArg some (by kernel_rfl))
  f298 := Try.func102.trans (congrArg some (by kernel_rfl))
  f299 := Try.func103.trans (congrArg some (by kernel_rfl))
  f300 := Try.func105.trans (congrArg some (by kernel_rfl))
  f301 := Try.func106.trans (congrArg some (by kernel_rfl))
  f328 := Try.func109.trans (congrArg some (by kernel_rfl))
  f329 := Try.func110.trans (congrArg some (by kernel_rfl))
  f330 := Try.func111.trans (congrArg some (by kernel_rfl))
  f331 := Try.func112.trans (congrArg some (by kernel_rfl))
  f332 := Try.func113.trans (congrArg some (by kernel_rfl))
  f343 := Try.func115.trans (congrArg some (by kernel_rfl))
  t0 := Try.underlying0
  a0 := Try.isAgg0
  z0 := Try.sizeOf0
  v0 := Try.zeroValue0
  t3 := Try.underlying3
  a3 := Try.isAgg3
  z3 := Try.sizeOf3
  v3 := Try.zeroValue3
  t4 := Try.underlying4
  a4 := Try.isAgg4
  z4 := Try.sizeOf4
  v4 := Try.zeroValue4
  t5 := Try.underlying5
  a5 := Try.isAgg5
  z5 := Try.sizeOf5
  v5 := Try.zeroValue5
  t9 := Try.underlying9
  a9 := Try.isAgg9
  z9 := Try.sizeOf9
  v9 := Try.zeroValue9
  t28 := Try.underlying40
  a28 := Try.isAgg40
  z28 := Try.sizeOf40
  v28 := Try.zeroValue40
  t46 := Try.underlying60
  a46 := Try.isAgg60
  z46 := Try.sizeOf60
  v46 := Try.zeroValue60
  t51 := Try.underlying140
  a51 := Try.isAgg140
  z51 := Try.sizeOf140
  v51 := Try.zeroValue140
  t53 := Try.underlying142
  a53 := Try.isAgg142
  z53 := Try.sizeOf142
  v53 := Try.zeroValue142
  t131 := Try.underlying111
  a131 := Try.isAgg111
  z131 := Try.sizeOf111
  v131 := Try.zeroValue111
  t182 := Try.underlying132
  a182 := Try.isAgg132
  z182 := Try.sizeOf132
  v182 := Try.zeroValue132
  t183 := Try.underlying133
  a183 := Try.isAgg133
  z183 := Try.sizeOf133
  v183 := Try.zeroValue133
  t218 := Try.underlying143
  a218 := Try.isAgg143
  z218 := Try.sizeOf143
  v218 := Try.zeroValue143
  t222 := Try.underlying147
  a222 := Try.isAgg147
  z222 := Try.sizeOf147
  v222 := Try.zeroValue147
  t228 := Try.underlying149
  a228 := Try.isAgg149
  z228 := Try.sizeOf149
  v228 := Try.zeroValue149
  t229 := Try.underlying150
  a229 := Try.isAgg150
  z229 := Try.sizeOf150
  v229 := Try.zeroValue150 }
def Try.laysCompact_ren : Go.Shelf.Ren := ⟨fun | 20 => 88 | n => n, fun | 22 => 40 | 3 => 3 | 4 => 4 | 0 => 0 | n => n, fun | n => n⟩
theorem Try.laysCompact : Go.Proofs.Lays2.n20 Try.prog Try.laysCompact_ren := {
  mixed := by kernel_rfl
  f20 := Try.func88.trans (congrArg some (by kernel_rfl))
  t0 := Try.underlying0
  a0 := Try.isAgg0
  z0 := Try.sizeOf0
  v0 := Try.zeroValue0
  t3 := Try.underlying3
  a3 := Try.isAgg3
  z3 := Try.sizeOf3
  v3 := Try.zeroValue3
  t4 := Try.underlying4
  a4 := Try.isAgg4
  z4 := Try.sizeOf4
  v4 := Try.zeroValue4
  t22 := Try.underlying40
  a22 := Try.isAgg40
  z22 := Try.sizeOf40
  v22 := Try.zeroValue40
  i3 := by kernel_rfl }
end Go.Proofs
namespace Go.Proofs.Ytcpipfodedfpkaa
open Go.Ab
theorem c_SortI (l : List Int) (hl : l.length ≤ 1000000) : ContractM Try.prog 87 [{ sz := 1, rows := ints l }] [.own 0 0 l.length] (.tup []) [some { sz := 1, rows := ints (sortI l) }] :=
  contractM_sort (fun blk off cap zs w hH hb hz => Any.slices_Sort_int Try.laysSort blk off cap zs w hH hb hz) (fun p cap w => Any.slices_Sort_int_none Try.laysSort p cap w) l (by omega)
theorem c_CompactI (l : List Int) (hl : l.length ≤ 1000000) : ContractM Try.prog 88 [{ sz := 1, rows := ints l }] [.own 0 0 l.length] (.own 0 0 (cptI l).length) [some { sz := 1, rows := ints (cpzI l) }] :=
  contractM_compact (fun blk off cap zs w hH hb hz => Any.slices_Compact_int Try.laysCompact blk off cap zs w hH hb hz) (fun p cap w => Any.slices_Compact_int_empty Try.laysCompact p cap w) l (by omega)
theorem cpzI_take (l : List Int) : (cpzI l).take (cptI l).length = cptI l := by simp [cpzI]
theorem sortI_mem {l : List Int} {x : Int} : x ∈ sortI l ↔ x ∈ l := (sortI_perm l).mem_iff
theorem sortI_le (l : List Int) : (sortI l).Pairwise (· ≤ ·) := by
  have := List.pairwise_mergeSort (le := fun x y : Int => decide (x ≤ y)) (fun a b c h1 h2 => by simp only [decide_eq_true_eq] at *; omega) (fun a b => by simp only [Bool.or_eq_true, decide_eq_true_eq]; omega) l
  exact this.imp fun h => by simpa using h
theorem sortI_lt {l : List Int} (h : l.Nodup) : (sortI l).Pairwise (· < ·) := by
  have h1 := sortI_le l
  have h2 : (sortI l).Nodup := (sortI_perm l).nodup_iff.2 h
  exact h1.imp₂ (fun a b p q => by have : a ≠ b := q; omega) h2
theorem arr_get (l : List Int) (i : Nat) : l.toArray[i]! = l.getD i 0 := by
  rcases Nat.lt_or_ge i l.length with h | h
  · simp [List.getD, h]
  · simp [List.getD, List.getElem?_eq_none h]
theorem keeps_iff (l : List Int) (i : Nat) : Lib.keeps l.toArray i = true ↔ i = 0 ∨ l.getD i 0 ≠ l.getD (i - 1) 0 := by
  unfold Lib.keeps
  rw [arr_get, arr_get, decide_eq_true_eq]
theorem cptI_eq (l : List Int) : cptI l = ((List.range l.length).filter (Lib.keeps l.toArray)).map fun i => l.getD i 0 := by
  unfold cptI Lib.compact Lib.compactUpTo
  apply List.map_congr_left
  intro i _
  exact arr_get l i
theorem cptI_lt {l : List Int} (h : l.Pairwise (· ≤ ·)) : (cptI l).Pairwise (· < ·) := by
  have hm : ∀ i j, i ≤ j → j < l.length → l.getD i 0 ≤ l.getD j 0 := fun i j hij hj => by
    rcases Nat.lt_or_ge i j with q | q
    · have := List.pairwise_iff_getElem.1 h i j (by omega) hj q
      simpa [List.getD, hj, show i < l.length by omega] using this
    · rw [show i = j by omega]; exact Int.le_refl _
  rw [cptI_eq, List.pairwise_map]
  have h1 : ((List.range l.length).filter (Lib.keeps l.toArray)).Pairwise (· < ·) := (List.pairwise_lt_range (n := l.length)).filter _
  refine h1.imp_of_mem fun {i j} hi hj hij => ?_
  have hjl := List.mem_range.1 (List.mem_filter.1 hj).1
  have hk := (keeps_iff l j).1 (List.mem_filter.1 hj).2
  have a1 := hm i (j - 1) (by omega) (by omega)
  have a2 := hm (j - 1) j (by omega) hjl
  rcases hk with q | q
  · omega
  · omega
theorem cptI_mem {l : List Int} {x : Int} : x ∈ cptI l ↔ x ∈ l := by
  rw [cptI_eq, List.mem_map]
  constructor
  · rintro ⟨i, hi, rfl⟩
    have := List.mem_range.1 (List.mem_filter.1 hi).1
    simp [List.getD, List.getElem?_eq_getElem this]
  · intro hx
    obtain ⟨i, hi, e⟩ := List.getElem_of_mem hx
    have key : ∀ i, i < l.length → ∃ j, j ≤ i ∧ Lib.keeps l.toArray j = true ∧ l.getD j 0 = l.getD i 0 := by
      intro i
      induction i with
      | zero => exact fun _ => ⟨0, Nat.le_refl _, (keeps_iff l 0).2 (.inl rfl), rfl⟩
      | succ i ih =>
        intro hi
        by_cases g : l.getD (i + 1) 0 = l.getD i 0
        · obtain ⟨j, h1, h2, h3⟩ := ih (by omega)
          exact ⟨j, by omega, h2, by rw [h3, g]⟩
        · exact ⟨i + 1, Nat.le_refl _, (keeps_iff l (i + 1)).2 (.inr g), rfl⟩
    obtain ⟨j, h1, h2, h3⟩ := key i hi
    refine ⟨j, List.mem_filter.2 ⟨List.mem_range.2 (by omega), h2⟩, ?_⟩
    rw [h3]
    simp [List.getD, List.getElem?_eq_getElem hi, e]
theorem cpt_sort {l m : List Int} (hm : m.Pairwise (· < ·)) (h : ∀ x, x ∈ l ↔ x ∈ m) : cptI (sortI l) = m :=
  sorted_ext (cptI_lt (sortI_le l)) hm fun x => by rw [cptI_mem, sortI_mem, h]
theorem sort_nd {l m : List Int} (hl : l.Nodup) (hm : m.Pairwise (· < ·)) (h : ∀ x, x ∈ l ↔ x ∈ m) : sortI l = m :=
  sorted_ext (sortI_lt hl) hm fun x => by rw [sortI_mem, h]
def gat1 (M : Mv) (p : Int × Int → Option Int) (s : Int) : List Int := if 0 ≤ s ∧ s < (M.length : Int) then (M.getD s.toNat []).filterMap p else []
def gat (M : Mv) (p : Int × Int → Option Int) (l : List Int) : List Int := l.flatMap (gat1 M p)
theorem gat_succ (M : Mv) (p : Int × Int → Option Int) {l : List Int} {i : Nat} (h : i < l.length) : gat M p (l.take (i + 1)) = gat M p (l.take i) ++ gat1 M p (l.getD i 0) := by
  unfold gat
  rw [take_snoc h 0, List.flatMap_append]
  simp
theorem gat_bound {M : Mv} {p : Int × Int → Option Int} {R : Nat} (hR : ∀ s, (M.getD s []).length ≤ R) : ∀ l : List Int, (gat M p l).length ≤ l.length * R
  | [] => by simp [gat]
  | s :: l => by
    have ih := gat_bound (p := p) hR l
    have h1 : (gat1 M p s).length ≤ R := by
      unfold gat1
      split
      · exact Nat.le_trans (List.length_filterMap_le _ _) (hR _)
      · simp
    have e : gat M p (s :: l) = gat1 M p s ++ gat M p l := rfl
    rw [e, List.length_append, List.length_cons, Nat.add_mul, Nat.one_mul]
    omega
theorem gat_mem {M : Mv} {p : Int × Int → Option Int} {l : List Int} {x : Int} : x ∈ gat M p l ↔ ∃ i : Nat, (i : Int) ∈ l ∧ ∃ m ∈ M.getD i [], p m = some x := by
  simp only [gat, List.mem_flatMap, gat1]
  constructor
  · rintro ⟨s, hs, hx⟩
    split at hx
    · rename_i hc
      obtain ⟨m, hm, e⟩ := List.mem_filterMap.1 hx
      exact ⟨s.toNat, by rwa [show ((s.toNat : Nat) : Int) = s by omega], m, hm, e⟩
    · cases hx
  · rintro ⟨i, hi, m, hm, e⟩
    have hl : i < M.length := by
      rcases Nat.lt_or_ge i M.length with q | q
      · exact q
      · simp [List.getD, List.getElem?_eq_none q] at hm
    refine ⟨_, hi, ?_⟩
    rw [if_pos (by omega), Int.toNat_natCast]
    exact List.mem_filterMap.2 ⟨m, hm, e⟩
theorem fm_succ (p : Int × Int → Option Int) {r : List (Int × Int)} {j : Nat} (h : j < r.length) : (r.take (j + 1)).filterMap p = (r.take j).filterMap p ++ (match p (r.getD j (0, 0)) with | some x => [x] | none => []) := by
  rw [take_snoc h (0, 0), List.filterMap_append]
  congr 1
  generalize r.getD j (0, 0) = m
  rw [List.filterMap_cons, List.filterMap_nil]
  cases p m <;> rfl
def pStep (a : Int) (m : Int × Int) : Option Int := if m.1 = a then some m.2 else none
def pOut (m : Int × Int) : Option Int := if 0 ≤ m.1 then some m.1 else none
theorem step_is {L k : Nat} {M : Mv} (h : MOk L k M) (l : List Int) (a : Int) : cptI (sortI (gat M (pStep a) l)) = stepL M l a := by
  refine cpt_sort (onL_sorted _ _) fun x => ?_
  rw [gat_mem, stepL_mem h]
  constructor
  · rintro ⟨i, hi, ⟨m1, m2⟩, hm, e⟩
    unfold pStep at e
    split at e
    · rename_i q
      simp only [Option.some.injEq] at e q
      subst e q
      exact ⟨i, hi, hm⟩
    · cases e
  · rintro ⟨i, hi, hm⟩
    exact ⟨i, hi, _, hm, by unfold pStep; rw [if_pos rfl]⟩
theorem out_is {L k : Nat} {M : Mv} (h : MOk L k M) (l : List Int) : cptI (sortI (gat M pOut l)) = outL L M l := by
  refine cpt_sort (onL_sorted _ _) fun x => ?_
  rw [gat_mem, outL_mem h]
  constructor
  · rintro ⟨i, hi, ⟨m1, m2⟩, hm, e⟩
    unfold pOut at e
    split at e
    · rename_i q
      simp only [Option.some.injEq] at e q
      subst e
      exact ⟨q, i, m2, hi, hm⟩
    · cases e
  · rintro ⟨h0, i, y, hi, hm⟩
    exact ⟨i, hi, _, hm, by unfold pOut; rw [if_pos h0]⟩
set_option maxRecDepth 20000 in
set_option maxHeartbeats 16000000 in
theorem c_EStep {L k : Nat} {M : Mv} (h : MOk L k M) (hk : k ≤ 2000) (st : Nat) (F : List Bool) (f : Bool) (l : List Int) (hl : l.length ≤ 500) (hR : ∀ s, (M.getD s []).length ≤ 1000) (a : Int) :
    Contract Try.prog 74 [nfaD L st F M, .sl f (ints l), i64 a] (.sl false (ints (stepL M l a))) [] := by
  refine contract_of_awp (rs := [6]) Try.func74 rfl Try.ntmps74 (by simp) rfl fun E => ?_
  have hkl := h.len
  have hgl : ∀ i, (gat M (pStep a) (l.take i)).length ≤ 500 * 1000 := fun i => by
    have := gat_bound (p := (pStep a)) hR (l.take i)
    have h1 : (l.take i).length ≤ 500 := by rw [List.length_take]; omega
    have h2 : (l.take i).length * 1000 ≤ 500 * 1000 := Nat.mul_le_mul h1 (Nat.le_refl _)
    omega
  ((repeat (first | refine awp_seq ?_ | refine awp_block ?_)); ((first | refine awp_skip ?_ | refine awp_exit ?_ | refine awp_reg ttok ?_ | (refine awp_draw ttok ?dr_calm ?_; (case dr_calm => decide +kernel)) | refine awp_condM ?_); simp (maxSteps := 4000000) only [↓reduceIte, Nat.reduceLT, Nat.reduceEqDiff, reduceCtorEq, Nat.reduceAdd, Nat.reduceMul, Int.reduceLE, Int.reduceLT, Int.reduceToNat, Nat.reduceLeDiff, Nat.reduceSub, Int.reduceEq, Nat.reduceBEq, evB, tyA, nfaD]; (repeat (with_reducible refine And.intro ?_ ?_; exact sdX)); (with_reducible first | refine awp_id ?_ | refine id_call ?_ | refine id_and ?_ | refine id_ex ?_ | refine id_all ?_ | refine id_nat ?_ | refine id_le ?_)))
  ((repeat (first | refine awp_seq ?_ | refine awp_block ?_)); ((first | refine awp_skip ?_ | refine awp_exit ?_ | refine awp_reg ttok ?_ | (refine awp_draw ttok ?dr_calm ?_; (case dr_calm => decide +kernel)) | refine awp_condM ?_); simp (maxSteps := 4000000) only [↓reduceIte, Nat.reduceLT, Nat.reduceEqDiff, reduceCtorEq, Nat.reduceAdd, Nat.reduceMul, Int.reduceLE, Int.reduceLT, Int.reduceToNat, Nat.reduceLeDiff, Nat.reduceSub, Int.reduceEq, Nat.reduceBEq, evB, tyA]; (repeat (with_reducible refine And.intro ?_ ?_; exact sdX)); (with_reducible first | refine awp_id ?_ | refine id_call ?_ | refine id_and ?_ | refine id_ex ?_ | refine id_all ?_ | refine id_nat ?_ | refine id_le ?_)))
  refine awp_own_nil 7 90000 1 evX (by decide) ?_
  (repeat (first | refine awp_seq ?_ | refine awp_block ?_ | ((first | refine awp_skip ?_ | refine awp_exit ?_ | refine awp_reg ttok ?_ | (refine awp_draw ttok ?dr_calm ?_; (case dr_calm => decide +kernel)) | refine awp_condM ?_); simp (maxSteps := 4000000) only [↓reduceIte, Nat.reduceLT, Nat.reduceEqDiff, reduceCtorEq, Nat.reduceAdd, Nat.reduceMul, Int.reduceLE, Int.reduceLT, Int.reduceToNat, Nat.reduceLeDiff, Nat.reduceSub, Int.reduceEq, Nat.reduceBEq, evB, tyA, St.toOwn]; (repeat (with_reducible refine And.intro ?_ ?_; exact sdX)); (with_reducible first | refine awp_id ?_ | refine id_call ?_ | refine id_and ?_ | refine id_ex ?_ | refine id_all ?_ | refine id_nat ?_ | refine id_le ?_))))
  refine awp_loop (X := Nat) (fun i => mkS 52 [(2, i64 a), (3, .ptr 1000 0 0), (7, .own 90000 0 (gat M (pStep a) (l.take i)).length), (12, .sl f (ints l)), (13, i64 l.length), (14, i64 i)]
      [(1000, { sz := 4, rows := [[i64 L, i64 st, .sl false (bos F), .sl false (mmv M)]], flat := false }), (90000, { sz := 1, rows := ints (gat M (pStep a) (l.take i)) })]) (fun i => i ≤ l.length) (fun i => l.length - i) 0 (Nat.zero_le _) (mkS_le rfl ?_ ?_) ?_
  · simp (maxSteps := 4000000) only [↓reduceIte, Nat.reduceLT, Nat.reduceEqDiff, reduceCtorEq, Nat.reduceAdd, Nat.reduceMul, Int.reduceLE, Int.reduceLT, Int.reduceToNat, Nat.reduceLeDiff, Nat.reduceSub, Int.reduceEq, Nat.reduceBEq, evB, gat, List.flatMap_nil]
    try rfl
  · simp (maxSteps := 4000000) only [↓reduceIte, Nat.reduceLT, Nat.reduceEqDiff, reduceCtorEq, Nat.reduceAdd, Nat.reduceMul, Int.reduceLE, Int.reduceLT, Int.reduceToNat, Nat.reduceLeDiff, Nat.reduceSub, Int.reduceEq, Nat.reduceBEq, evB, gat, List.flatMap_nil, ints]
    try rfl
  · intro i hi
    have hgi := hgl i
    by_cases hlt : i < l.length
    · have d1 : decide ((i : Int) < (l.length : Int)) = true := by simpa using hlt
      have hwi : IntKind.i64.wrap ((i : Int) + 1) = ((i + 1 : Nat) : Int) := i64_in (by omega) (by omega)
      have hgw := ints_get hlt
      have hs := gat_succ M (pStep a) hlt
      have hg1 : gat1 M (pStep a) (l.getD i 0) = if 0 ≤ l.getD i 0 ∧ l.getD i 0 < (M.length : Int) then (M.getD (l.getD i 0).toNat []).filterMap (pStep a) else [] := rfl
      generalize l.getD i 0 = z at *
      by_cases hz0 : z < 0
      · have e1 : decide (z < 0) = true := by simpa using hz0
        rw [hg1, if_neg (by omega), List.append_nil] at hs
        (repeat (first | refine awp_seq ?_ | refine awp_block ?_ | ((first | refine awp_skip ?_ | refine awp_exit ?_ | refine awp_reg ttok ?_ | (refine awp_draw ttok ?dr_calm ?_; (case dr_calm => decide +kernel)) | refine awp_condM ?_); simp (maxSteps := 4000000) only [↓reduceIte, Nat.reduceLT, Nat.reduceEqDiff, reduceCtorEq, Nat.reduceAdd, Nat.reduceMul, Int.reduceLE, Int.reduceLT, Int.reduceToNat, Nat.reduceLeDiff, Nat.reduceSub, Int.reduceEq, Nat.reduceBEq, evB, tyA, d1, hgw, e1, hwi]; (repeat (with_reducible refine And.intro ?_ ?_; exact sdX)); (with_reducible first | refine awp_id ?_ | refine id_call ?_ | refine id_and ?_ | refine id_ex ?_ | refine id_all ?_ | refine id_nat ?_ | refine id_le ?_))))
        refine ⟨i + 1, by omega, by omega, mkS_le rfl ?_ ?_⟩
        · simp (maxSteps := 4000000) only [↓reduceIte, Nat.reduceLT, Nat.reduceEqDiff, reduceCtorEq, Nat.reduceAdd, Nat.reduceMul, Int.reduceLE, Int.reduceLT, Int.reduceToNat, Nat.reduceLeDiff, Nat.reduceSub, Int.reduceEq, Nat.reduceBEq, evB, hs]
        · simp (maxSteps := 4000000) only [↓reduceIte, Nat.reduceLT, Nat.reduceEqDiff, reduceCtorEq, Nat.reduceAdd, Nat.reduceMul, Int.reduceLE, Int.reduceLT, Int.reduceToNat, Nat.reduceLeDiff, Nat.reduceSub, Int.reduceEq, Nat.reduceBEq, evB, hs]
      · have e1 : decide (z < 0) = false := by simpa using hz0
        by_cases hzk : (k : Int) ≤ z
        · have e2 : decide (z ≥ (k : Int)) = true := by simpa using hzk
          rw [hg1, if_neg (by omega), List.append_nil] at hs
          (repeat (first | refine awp_seq ?_ | refine awp_block ?_ | ((first | refine awp_skip ?_ | refine awp_exit ?_ | refine awp_reg ttok ?_ | (refine awp_draw ttok ?dr_calm ?_; (case dr_calm => decide +kernel)) | refine awp_condM ?_); simp (maxSteps := 4000000) only [↓reduceIte, Nat.reduceLT, Nat.reduceEqDiff, reduceCtorEq, Nat.reduceAdd, Nat.reduceMul, Int.reduceLE, Int.reduceLT, Int.reduceToNat, Nat.reduceLeDiff, Nat.reduceSub, Int.reduceEq, Nat.reduceBEq, evB, tyA, d1, hgw, e1, mmv_len, hkl, e2, hwi]; (repeat (with_reducible refine And.intro ?_ ?_; exact sdX)); (with_reducible first | refine awp_id ?_ | refine id_call ?_ | refine id_and ?_ | refine id_ex ?_ | refine id_all ?_ | refine id_nat ?_ | refine id_le ?_))))
          refine ⟨i + 1, by omega, by omega, mkS_le rfl ?_ ?_⟩
          · simp (maxSteps := 4000000) only [↓reduceIte, Nat.reduceLT, Nat.reduceEqDiff, reduceCtorEq, Nat.reduceAdd, Nat.reduceMul, Int.reduceLE, Int.reduceLT, Int.reduceToNat, Nat.reduceLeDiff, Nat.reduceSub, Int.reduceEq, Nat.reduceBEq, evB, hs]
          · simp (maxSteps := 4000000) only [↓reduceIte, Nat.reduceLT, Nat.reduceEqDiff, reduceCtorEq, Nat.reduceAdd, Nat.reduceMul, Int.reduceLE, Int.reduceLT, Int.reduceToNat, Nat.reduceLeDiff, Nat.reduceSub, Int.reduceEq, Nat.reduceBEq, evB, hs]
        · have e2 : decide (z ≥ (k : Int)) = false := by simp; omega
          obtain ⟨s, rfl⟩ := Int.eq_ofNat_of_zero_le (show 0 ≤ z by omega)
          have hsk : s < k := by omega
          rw [hg1, if_pos (by omega), Int.toNat_natCast] at hs
          have hgm := mmv_get (M := M) (i := s) (by omega)
          have hrl := hR s
          have hrb := h.get s
          (repeat (first | refine awp_seq ?_ | refine awp_block ?_ | ((first | refine awp_skip ?_ | refine awp_exit ?_ | refine awp_reg ttok ?_ | (refine awp_draw ttok ?dr_calm ?_; (case dr_calm => decide +kernel)) | refine awp_condM ?_); simp (maxSteps := 4000000) only [↓reduceIte, Nat.reduceLT, Nat.reduceEqDiff, reduceCtorEq, Nat.reduceAdd, Nat.reduceMul, Int.reduceLE, Int.reduceLT, Int.reduceToNat, Nat.reduceLeDiff, Nat.reduceSub, Int.reduceEq, Nat.reduceBEq, evB, tyA, d1, hgw, e1, mmv_len, hkl, e2, hgm, mvs_len]; (repeat (with_reducible refine And.intro ?_ ?_; exact sdX)); (with_reducible first | refine awp_id ?_ | refine id_call ?_ | refine id_and ?_ | refine id_ex ?_ | refine id_all ?_ | refine id_nat ?_ | refine id_le ?_))))
          generalize M.getD s [] = r at *
          refine awp_loop (X := Nat) (fun j => mkS 52 [(2, i64 a), (3, .ptr 1000 0 0), (7, .own 90000 0 (gat M (pStep a) (l.take i) ++ (r.take j).filterMap (pStep a)).length), (12, .sl f (ints l)), (13, i64 l.length), (14, i64 i), (31, .sl false (mvs r)), (32, i64 r.length), (33, i64 j)]
              [(1000, { sz := 4, rows := [[i64 L, i64 st, .sl false (bos F), .sl false (mmv M)]], flat := false }), (90000, { sz := 1, rows := ints (gat M (pStep a) (l.take i) ++ (r.take j).filterMap (pStep a)) })]) (fun j => j ≤ r.length) (fun j => r.length - j) 0 (Nat.zero_le _) (mkS_le rfl ?_ ?_) ?_
          · simp (maxSteps := 4000000) only [↓reduceIte, Nat.reduceLT, Nat.reduceEqDiff, reduceCtorEq, Nat.reduceAdd, Nat.reduceMul, Int.reduceLE, Int.reduceLT, Int.reduceToNat, Nat.reduceLeDiff, Nat.reduceSub, Int.reduceEq, Nat.reduceBEq, evB, List.filterMap_nil, List.append_nil]
            try rfl
          · simp (maxSteps := 4000000) only [↓reduceIte, Nat.reduceLT, Nat.reduceEqDiff, reduceCtorEq, Nat.reduceAdd, Nat.reduceMul, Int.reduceLE, Int.reduceLT, Int.reduceToNat, Nat.reduceLeDiff, Nat.reduceSub, Int.reduceEq, Nat.reduceBEq, evB, List.filterMap_nil, List.append_nil]
            try rfl
          · intro j hj
            have hol : (gat M (pStep a) (l.take i) ++ (r.take j).filterMap (pStep a)).length ≤ 501 * 1000 := by
              have := List.length_filterMap_le (pStep a) (r.take j)
              rw [List.length_take] at this
              rw [List.length_append]; omega
            by_cases hjlt : j < r.length
            · have d2 : decide ((j : Int) < (r.length : Int)) = true := by simpa using hjlt
              have hwj : IntKind.i64.wrap ((j : Int) + 1) = ((j + 1 : Nat) : Int) := i64_in (by omega) (by omega)
              have hgr := mvs_get hjlt
              have hfs := fm_succ (pStep a) hjlt
              generalize r.getD j (0, 0) = m at *
              have hto : gat M (pStep a) (l.take i) ++ (r.take (j + 1)).filterMap (pStep a) = (gat M (pStep a) (l.take i) ++ (r.take j).filterMap (pStep a)) ++ (match (pStep a) m with | some x => [x] | none => []) := by rw [hfs, List.append_assoc]
              generalize gat M (pStep a) (l.take i) ++ (r.take j).filterMap (pStep a) = o at *
              have hot : List.take o.length o = o := List.take_of_length_le (Nat.le_refl _)
              have hr2 : ∀ z : Int, (∀ row ∈ [[D.v (Value.int IntKind.i64 z)]], row.length = 1) = True := fun z => by simp
              by_cases hc : m.1 = a
              · have e3 : (m.1 == a) = true := by simpa using hc
                have hpp : (pStep a) m = some m.2 := by unfold pStep; rw [if_pos hc]
                rw [hpp] at hto
                simp only at hto
                (repeat (first | refine awp_seq ?_ | refine awp_block ?_ | ((first | refine awp_skip ?_ | refine awp_exit ?_ | refine awp_reg ttok ?_ | (refine awp_draw ttok ?dr_calm ?_; (case dr_calm => decide +kernel)) | refine awp_condM ?_); simp (maxSteps := 4000000) only [↓reduceIte, Nat.reduceLT, Nat.reduceEqDiff, reduceCtorEq, Nat.reduceAdd, Nat.reduceMul, Int.reduceLE, Int.reduceLT, Int.reduceToNat, Nat.reduceLeDiff, Nat.reduceSub, Int.reduceEq, Nat.reduceBEq, evB, tyA, d2, hgr, mvs_len, e3, hwj, ints_len, ints_take, hot, ints_one, ints_app, hr2]; (repeat (with_reducible refine And.intro ?_ ?_; exact sdX)); (with_reducible first | refine awp_id ?_ | refine id_call ?_ | refine id_and ?_ | refine id_ex ?_ | refine id_all ?_ | refine id_nat ?_ | refine id_le ?_))))
                refine ⟨j + 1, by omega, by omega, mkS_le rfl ?_ ?_⟩
                · simp (maxSteps := 4000000) only [↓reduceIte, Nat.reduceLT, Nat.reduceEqDiff, reduceCtorEq, Nat.reduceAdd, Nat.reduceMul, Int.reduceLE, Int.reduceLT, Int.reduceToNat, Nat.reduceLeDiff, Nat.reduceSub, Int.reduceEq, Nat.reduceBEq, evB, hto, List.length_append]
                · simp (maxSteps := 4000000) only [↓reduceIte, Nat.reduceLT, Nat.reduceEqDiff, reduceCtorEq, Nat.reduceAdd, Nat.reduceMul, Int.reduceLE, Int.reduceLT, Int.reduceToNat, Nat.reduceLeDiff, Nat.reduceSub, Int.reduceEq, Nat.reduceBEq, evB, hto, ints_one, ints_app, ints_take, hot]
              · have e3 : (m.1 == a) = false := by simpa using hc
                have hpp : (pStep a) m = none := by unfold pStep; rw [if_neg hc]
                rw [hpp] at hto
                simp only [List.append_nil] at hto
                (repeat (first | refine awp_seq ?_ | refine awp_block ?_ | ((first | refine awp_skip ?_ | refine awp_exit ?_ | refine awp_reg ttok ?_ | (refine awp_draw ttok ?dr_calm ?_; (case dr_calm => decide +kernel)) | refine awp_condM ?_); simp (maxSteps := 4000000) only [↓reduceIte, Nat.reduceLT, Nat.reduceEqDiff, reduceCtorEq, Nat.reduceAdd, Nat.reduceMul, Int.reduceLE, Int.reduceLT, Int.reduceToNat, Nat.reduceLeDiff, Nat.reduceSub, Int.reduceEq, Nat.reduceBEq, evB, tyA, d2, hgr, mvs_len, e3, hwj]; (repeat (with_reducible refine And.intro ?_ ?_; exact sdX)); (with_reducible first | refine awp_id ?_ | refine id_call ?_ | refine id_and ?_ | refine id_ex ?_ | refine id_all ?_ | refine id_nat ?_ | refine id_le ?_))))
                refine ⟨j + 1, by omega, by omega, mkS_le rfl ?_ ?_⟩
                · simp (maxSteps := 4000000) only [↓reduceIte, Nat.reduceLT, Nat.reduceEqDiff, reduceCtorEq, Nat.reduceAdd, Nat.reduceMul, Int.reduceLE, Int.reduceLT, Int.reduceToNat, Nat.reduceLeDiff, Nat.reduceSub, Int.reduceEq, Nat.reduceBEq, evB, hto]
                · simp (maxSteps := 4000000) only [↓reduceIte, Nat.reduceLT, Nat.reduceEqDiff, reduceCtorEq, Nat.reduceAdd, Nat.reduceMul, Int.reduceLE, Int.reduceLT, Int.reduceToNat, Nat.reduceLeDiff, Nat.reduceSub, Int.reduceEq, Nat.reduceBEq, evB, hto]
            · have d2 : decide ((j : Int) < (r.length : Int)) = false := by simpa using hjlt
              have hjt : r.take j = r := List.take_of_length_le (by omega)
              (repeat (first | refine awp_seq ?_ | refine awp_block ?_ | ((first | refine awp_skip ?_ | refine awp_exit ?_ | refine awp_reg ttok ?_ | (refine awp_draw ttok ?dr_calm ?_; (case dr_calm => decide +kernel)) | refine awp_condM ?_); simp (maxSteps := 4000000) only [↓reduceIte, Nat.reduceLT, Nat.reduceEqDiff, reduceCtorEq, Nat.reduceAdd, Nat.reduceMul, Int.reduceLE, Int.reduceLT, Int.reduceToNat, Nat.reduceLeDiff, Nat.reduceSub, Int.reduceEq, Nat.reduceBEq, evB, tyA, d2, hwi]; (repeat (with_reducible refine And.intro ?_ ?_; exact sdX)); (with_reducible first | refine awp_id ?_ | refine id_call ?_ | refine id_and ?_ | refine id_ex ?_ | refine id_all ?_ | refine id_nat ?_ | refine id_le ?_))))
              refine ⟨i + 1, by omega, by omega, mkS_le rfl ?_ ?_⟩
              · simp (maxSteps := 4000000) only [↓reduceIte, Nat.reduceLT, Nat.reduceEqDiff, reduceCtorEq, Nat.reduceAdd, Nat.reduceMul, Int.reduceLE, Int.reduceLT, Int.reduceToNat, Nat.reduceLeDiff, Nat.reduceSub, Int.reduceEq, Nat.reduceBEq, evB, hs, hjt]
              · simp (maxSteps := 4000000) only [↓reduceIte, Nat.reduceLT, Nat.reduceEqDiff, reduceCtorEq, Nat.reduceAdd, Nat.reduceMul, Int.reduceLE, Int.reduceLT, Int.reduceToNat, Nat.reduceLeDiff, Nat.reduceSub, Int.reduceEq, Nat.reduceBEq, evB, hs, hjt]
    · have d1 : decide ((i : Int) < (l.length : Int)) = false := by simpa using hlt
      have hlt2 : l.take i = l := List.take_of_length_le (by omega)
      rw [hlt2] at hgi ⊢
      have hres := step_is h l a
      generalize gat M (pStep a) l = o at *
      (repeat (first | refine awp_seq ?_ | refine awp_block ?_ | ((first | refine awp_skip ?_ | refine awp_exit ?_ | refine awp_reg ttok ?_ | (refine awp_draw ttok ?dr_calm ?_; (case dr_calm => decide +kernel)) | refine awp_condM ?_); simp (maxSteps := 4000000) only [↓reduceIte, Nat.reduceLT, Nat.reduceEqDiff, reduceCtorEq, Nat.reduceAdd, Nat.reduceMul, Int.reduceLE, Int.reduceLT, Int.reduceToNat, Nat.reduceLeDiff, Nat.reduceSub, Int.reduceEq, Nat.reduceBEq, evB, tyA, d1]; (repeat (with_reducible refine And.intro ?_ ?_; exact sdX)); (with_reducible first | refine awp_id ?_ | refine id_call ?_ | refine id_and ?_ | refine id_ex ?_ | refine id_all ?_ | refine id_nat ?_ | refine id_le ?_))))
      have hsl := sortI_len o
      have hcS := c_SortI o (by omega)
      refine callVC_M [90000] fnok87 hcS (by simp (maxSteps := 4000000) only [↓reduceIte, Nat.reduceLT, Nat.reduceEqDiff, reduceCtorEq, Nat.reduceAdd, Nat.reduceMul, Int.reduceLE, Int.reduceLT, Int.reduceToNat, Nat.reduceLeDiff, Nat.reduceSub, Int.reduceEq, Nat.reduceBEq, evB]; rfl) evX ?_
      simp (maxSteps := 4000000) only [↓reduceIte, Nat.reduceLT, Nat.reduceEqDiff, reduceCtorEq, Nat.reduceAdd, Nat.reduceMul, Int.reduceLE, Int.reduceLT, Int.reduceToNat, Nat.reduceLeDiff, Nat.reduceSub, Int.reduceEq, Nat.reduceBEq, evB, tyA, ints_len]
      (repeat (with_reducible refine And.intro ?_ ?_; exact sdX))
      (repeat (first | refine awp_seq ?_ | refine awp_block ?_ | ((first | refine awp_skip ?_ | refine awp_exit ?_ | refine awp_reg ttok ?_ | (refine awp_draw ttok ?dr_calm ?_; (case dr_calm => decide +kernel)) | refine awp_condM ?_); simp (maxSteps := 4000000) only [↓reduceIte, Nat.reduceLT, Nat.reduceEqDiff, reduceCtorEq, Nat.reduceAdd, Nat.reduceMul, Int.reduceLE, Int.reduceLT, Int.reduceToNat, Nat.reduceLeDiff, Nat.reduceSub, Int.reduceEq, Nat.reduceBEq, evB, tyA]; (repeat (with_reducible refine And.intro ?_ ?_; exact sdX)); (with_reducible first | refine awp_id ?_ | refine id_call ?_ | refine id_and ?_ | refine id_ex ?_ | refine id_all ?_ | refine id_nat ?_ | refine id_le ?_))))
      rw [← hsl]
      have hcC := c_CompactI (sortI o) (by omega)
      have hzl := cpzI_len (sortI o)
      have hcl := cptI_le (sortI o)
      have hct := cpzI_take (sortI o)
      refine callVC_M [90000] fnok88 hcC (by simp (maxSteps := 4000000) only [↓reduceIte, Nat.reduceLT, Nat.reduceEqDiff, reduceCtorEq, Nat.reduceAdd, Nat.reduceMul, Int.reduceLE, Int.reduceLT, Int.reduceToNat, Nat.reduceLeDiff, Nat.reduceSub, Int.reduceEq, Nat.reduceBEq, evB]; rfl) evX ?_
      simp (maxSteps := 4000000) only [↓reduceIte, Nat.reduceLT, Nat.reduceEqDiff, reduceCtorEq, Nat.reduceAdd, Nat.reduceMul, Int.reduceLE, Int.reduceLT, Int.reduceToNat, Nat.reduceLeDiff, Nat.reduceSub, Int.reduceEq, Nat.reduceBEq, evB, tyA, ints_len]
      (repeat (with_reducible refine And.intro ?_ ?_; exact sdX))
      (repeat (first | refine awp_seq ?_ | refine awp_block ?_ | ((first | refine awp_skip ?_ | refine awp_exit ?_ | refine awp_reg ttok ?_ | (refine awp_draw ttok ?dr_calm ?_; (case dr_calm => decide +kernel)) | refine awp_condM ?_); simp (maxSteps := 4000000) only [↓reduceIte, Nat.reduceLT, Nat.reduceEqDiff, reduceCtorEq, Nat.reduceAdd, Nat.reduceMul, Int.reduceLE, Int.reduceLT, Int.reduceToNat, Nat.reduceLeDiff, Nat.reduceSub, Int.reduceEq, Nat.reduceBEq, evB, tyA]; (repeat (with_reducible refine And.intro ?_ ?_; exact sdX)); (with_reducible first | refine awp_id ?_ | refine id_call ?_ | refine id_and ?_ | refine id_ex ?_ | refine id_all ?_ | refine id_nat ?_ | refine id_le ?_))))
      refine awp_pure 6 (d := .own 90000 0 (cptI (sortI o)).length) evX (by simp (maxSteps := 4000000) only [↓reduceIte, Nat.reduceLT, Nat.reduceEqDiff, reduceCtorEq, Nat.reduceAdd, Nat.reduceMul, Int.reduceLE, Int.reduceLT, Int.reduceToNat, Nat.reduceLeDiff, Nat.reduceSub, Int.reduceEq, Nat.reduceBEq, evB]; rfl) (by simp (maxSteps := 4000000) only [↓reduceIte, Nat.reduceLT, Nat.reduceEqDiff, reduceCtorEq, Nat.reduceAdd, Nat.reduceMul, Int.reduceLE, Int.reduceLT, Int.reduceToNat, Nat.reduceLeDiff, Nat.reduceSub, Int.reduceEq, Nat.reduceBEq, evB, ints_len, hzl]; omega) ?_
      rw [hres] at hct
      exact awp_ret (ends_plain (.inr rfl) rfl (by simp (maxSteps := 4000000) only [↓reduceIte, Nat.reduceLT, Nat.reduceEqDiff, reduceCtorEq, Nat.reduceAdd, Nat.reduceMul, Int.reduceLE, Int.reduceLT, Int.reduceToNat, Nat.reduceLeDiff, Nat.reduceSub, Int.reduceEq, Nat.reduceBEq, evB, ints_take, hres, hct]))
set_option maxRecDepth 20000 in
set_option maxHeartbeats 16000000 in
theorem c_EOut {L k : Nat} {M : Mv} (h : MOk L k M) (hk : k ≤ 2000) (st : Nat) (F : List Bool) (f : Bool) (l : List Int) (hl : l.length ≤ 500) (hR : ∀ s, (M.getD s []).length ≤ 1000) :
    Contract Try.prog 73 [nfaD L st F M, .sl f (ints l)] (.sl false (ints (outL L M l))) [] := by
  refine contract_of_awp (rs := [4]) Try.func73 rfl Try.ntmps73 (by simp) rfl fun E => ?_
  have hkl := h.len
  have hgl : ∀ i, (gat M pOut (l.take i)).length ≤ 500 * 1000 := fun i => by
    have := gat_bound (p := pOut) hR (l.take i)
    have h1 : (l.take i).length ≤ 500 := by rw [List.length_take]; omega
    have h2 : (l.take i).length * 1000 ≤ 500 * 1000 := Nat.mul_le_mul h1 (Nat.le_refl _)
    omega
  ((repeat (first | refine awp_seq ?_ | refine awp_block ?_)); ((first | refine awp_skip ?_ | refine awp_exit ?_ | refine awp_reg ttok ?_ | (refine awp_draw ttok ?dr_calm ?_; (case dr_calm => decide +kernel)) | refine awp_condM ?_); simp (maxSteps := 4000000) only [↓reduceIte, Nat.reduceLT, Nat.reduceEqDiff, reduceCtorEq, Nat.reduceAdd, Nat.reduceMul, Int.reduceLE, Int.reduceLT, Int.reduceToNat, Nat.reduceLeDiff, Nat.reduceSub, Int.reduceEq, Nat.reduceBEq, evB, tyA, nfaD]; (repeat (with_reducible refine And.intro ?_ ?_; exact sdX)); (with_reducible first | refine awp_id ?_ | refine id_call ?_ | refine id_and ?_ | refine id_ex ?_ | refine id_all ?_ | refine id_nat ?_ | refine id_le ?_)))
  ((repeat (first | refine awp_seq ?_ | refine awp_block ?_)); ((first | refine awp_skip ?_ | refine awp_exit ?_ | refine awp_reg ttok ?_ | (refine awp_draw ttok ?dr_calm ?_; (case dr_calm => decide +kernel)) | refine awp_condM ?_); simp (maxSteps := 4000000) only [↓reduceIte, Nat.reduceLT, Nat.reduceEqDiff, reduceCtorEq, Nat.reduceAdd, Nat.reduceMul, Int.reduceLE, Int.reduceLT, Int.reduceToNat, Nat.reduceLeDiff, Nat.reduceSub, Int.reduceEq, Nat.reduceBEq, evB, tyA]; (repeat (with_reducible refine And.intro ?_ ?_; exact sdX)); (with_reducible first | refine awp_id ?_ | refine id_call ?_ | refine id_and ?_ | refine id_ex ?_ | refine id_all ?_ | refine id_nat ?_ | refine id_le ?_)))
  refine awp_own_nil 5 90000 1 evX (by decide) ?_
  (repeat (first | refine awp_seq ?_ | refine awp_block ?_ | ((first | refine awp_skip ?_ | refine awp_exit ?_ | refine awp_reg ttok ?_ | (refine awp_draw ttok ?dr_calm ?_; (case dr_calm => decide +kernel)) | refine awp_condM ?_); simp (maxSteps := 4000000) only [↓reduceIte, Nat.reduceLT, Nat.reduceEqDiff, reduceCtorEq, Nat.reduceAdd, Nat.reduceMul, Int.reduceLE, Int.reduceLT, Int.reduceToNat, Nat.reduceLeDiff, Nat.reduceSub, Int.reduceEq, Nat.reduceBEq, evB, tyA, St.toOwn]; (repeat (with_reducible refine And.intro ?_ ?_; exact sdX)); (with_reducible first | refine awp_id ?_ | refine id_call ?_ | refine id_and ?_ | refine id_ex ?_ | refine id_all ?_ | refine id_nat ?_ | refine id_le ?_))))
  refine awp_loop (X := Nat) (fun i => mkS 49 [(2, .ptr 1000 0 0), (5, .own 90000 0 (gat M pOut (l.take i)).length), (10, .sl f (ints l)), (11, i64 l.length), (12, i64 i)]
      [(1000, { sz := 4, rows := [[i64 L, i64 st, .sl false (bos F), .sl false (mmv M)]], flat := false }), (90000, { sz := 1, rows := ints (gat M pOut (l.take i)) })]) (fun i => i ≤ l.length) (fun i => l.length - i) 0 (Nat.zero_le _) (mkS_le rfl ?_ ?_) ?_
  · simp (maxSteps := 4000000) only [↓reduceIte, Nat.reduceLT, Nat.reduceEqDiff, reduceCtorEq, Nat.reduceAdd, Nat.reduceMul, Int.reduceLE, Int.reduceLT, Int.reduceToNat, Nat.reduceLeDiff, Nat.reduceSub, Int.reduceEq, Nat.reduceBEq, evB, gat, List.flatMap_nil]
    try rfl
  · simp (maxSteps := 4000000) only [↓reduceIte, Nat.reduceLT, Nat.reduceEqDiff, reduceCtorEq, Nat.reduceAdd, Nat.reduceMul, Int.reduceLE, Int.reduceLT, Int.reduceToNat, Nat.reduceLeDiff, Nat.reduceSub, Int.reduceEq, Nat.reduceBEq, evB, gat, List.flatMap_nil, ints]
    try rfl
  · intro i hi
    have hgi := hgl i
    by_cases hlt : i < l.length
    · have d1 : decide ((i : Int) < (l.length : Int)) = true := by simpa using hlt
      have hwi : IntKind.i64.wrap ((i : Int) + 1) = ((i + 1 : Nat) : Int) := i64_in (by omega) (by omega)
      have hgw := ints_get hlt
      have hs := gat_succ M pOut hlt
      have hg1 : gat1 M pOut (l.getD i 0) = if 0 ≤ l.getD i 0 ∧ l.getD i 0 < (M.length : Int) then (M.getD (l.getD i 0).toNat []).filterMap pOut else [] := rfl
      generalize l.getD i 0 = z at *
      by_cases hz0 : z < 0
      · have e1 : decide (z < 0) = true := by simpa using hz0
        rw [hg1, if_neg (by omega), List.append_nil] at hs
        (repeat (first | refine awp_seq ?_ | refine awp_block ?_ | ((first | refine awp_skip ?_ | refine awp_exit ?_ | refine awp_reg ttok ?_ | (refine awp_draw ttok ?dr_calm ?_; (case dr_calm => decide +kernel)) | refine awp_condM ?_); simp (maxSteps := 4000000) only [↓reduceIte, Nat.reduceLT, Nat.reduceEqDiff, reduceCtorEq, Nat.reduceAdd, Nat.reduceMul, Int.reduceLE, Int.reduceLT, Int.reduceToNat, Nat.reduceLeDiff, Nat.reduceSub, Int.reduceEq, Nat.reduceBEq, evB, tyA, d1, hgw, e1, hwi]; (repeat (with_reducible refine And.intro ?_ ?_; exact sdX)); (with_reducible first | refine awp_id ?_ | refine id_call ?_ | refine id_and ?_ | refine id_ex ?_ | refine id_all ?_ | refine id_nat ?_ | refine id_le ?_))))
        refine ⟨i + 1, by omega, by omega, mkS_le rfl ?_ ?_⟩
        · simp (maxSteps := 4000000) only [↓reduceIte, Nat.reduceLT, Nat.reduceEqDiff, reduceCtorEq, Nat.reduceAdd, Nat.reduceMul, Int.reduceLE, Int.reduceLT, Int.reduceToNat, Nat.reduceLeDiff, Nat.reduceSub, Int.reduceEq, Nat.reduceBEq, evB, hs]
        · simp (maxSteps := 4000000) only [↓reduceIte, Nat.reduceLT, Nat.reduceEqDiff, reduceCtorEq, Nat.reduceAdd, Nat.reduceMul, Int.reduceLE, Int.reduceLT, Int.reduceToNat, Nat.reduceLeDiff, Nat.reduceSub, Int.reduceEq, Nat.reduceBEq, evB, hs]
      · have e1 : decide (z < 0) = false := by simpa using hz0
        by_cases hzk : (k : Int) ≤ z
        · have e2 : decide (z ≥ (k : Int)) = true := by simpa using hzk
          rw [hg1, if_neg (by omega), List.append_nil] at hs
          (repeat (first | refine awp_seq ?_ | refine awp_block ?_ | ((first | refine awp_skip ?_ | refine awp_exit ?_ | refine awp_reg ttok ?_ | (refine awp_draw ttok ?dr_calm ?_; (case dr_calm => decide +kernel)) | refine awp_condM ?_); simp (maxSteps := 4000000) only [↓reduceIte, Nat.reduceLT, Nat.reduceEqDiff, reduceCtorEq, Nat.reduceAdd, Nat.reduceMul, Int.reduceLE, Int.reduceLT, Int.reduceToNat, Nat.reduceLeDiff, Nat.reduceSub, Int.reduceEq, Nat.reduceBEq, evB, tyA, d1, hgw, e1, mmv_len, hkl, e2, hwi]; (repeat (with_reducible refine And.intro ?_ ?_; exact sdX)); (with_reducible first | refine awp_id ?_ | refine id_call ?_ | refine id_and ?_ | refine id_ex ?_ | refine id_all ?_ | refine id_nat ?_ | refine id_le ?_))))
          refine ⟨i + 1, by omega, by omega, mkS_le rfl ?_ ?_⟩
          · simp (maxSteps := 4000000) only [↓reduceIte, Nat.reduceLT, Nat.reduceEqDiff, reduceCtorEq, Nat.reduceAdd, Nat.reduceMul, Int.reduceLE, Int.reduceLT, Int.reduceToNat, Nat.reduceLeDiff, Nat.reduceSub, Int.reduceEq, Nat.reduceBEq, evB, hs]
          · simp (maxSteps := 4000000) only [↓reduceIte, Nat.reduceLT, Nat.reduceEqDiff, reduceCtorEq, Nat.reduceAdd, Nat.reduceMul, Int.reduceLE, Int.reduceLT, Int.reduceToNat, Nat.reduceLeDiff, Nat.reduceSub, Int.reduceEq, Nat.reduceBEq, evB, hs]
        · have e2 : decide (z ≥ (k : Int)) = false := by simp; omega
          obtain ⟨s, rfl⟩ := Int.eq_ofNat_of_zero_le (show 0 ≤ z by omega)
          have hsk : s < k := by omega
          rw [hg1, if_pos (by omega), Int.toNat_natCast] at hs
          have hgm := mmv_get (M := M) (i := s) (by omega)
          have hrl := hR s
          have hrb := h.get s
          (repeat (first | refine awp_seq ?_ | refine awp_block ?_ | ((first | refine awp_skip ?_ | refine awp_exit ?_ | refine awp_reg ttok ?_ | (refine awp_draw ttok ?dr_calm ?_; (case dr_calm => decide +kernel)) | refine awp_condM ?_); simp (maxSteps := 4000000) only [↓reduceIte, Nat.reduceLT, Nat.reduceEqDiff, reduceCtorEq, Nat.reduceAdd, Nat.reduceMul, Int.reduceLE, Int.reduceLT, Int.reduceToNat, Nat.reduceLeDiff, Nat.reduceSub, Int.reduceEq, Nat.reduceBEq, evB, tyA, d1, hgw, e1, mmv_len, hkl, e2, hgm, mvs_len]; (repeat (with_reducible refine And.intro ?_ ?_; exact sdX)); (with_reducible first | refine awp_id ?_ | refine id_call ?_ | refine id_and ?_ | refine id_ex ?_ | refine id_all ?_ | refine id_nat ?_ | refine id_le ?_))))
          generalize M.getD s [] = r at *
          refine awp_loop (X := Nat) (fun j => mkS 49 [(2, .ptr 1000 0 0), (5, .own 90000 0 (gat M pOut (l.take i) ++ (r.take j).filterMap pOut).length), (10, .sl f (ints l)), (11, i64 l.length), (12, i64 i), (29, .sl false (mvs r)), (30, i64 r.length), (31, i64 j)]
              [(1000, { sz := 4, rows := [[i64 L, i64 st, .sl false (bos F), .sl false (mmv M)]], flat := false }), (90000, { sz := 1, rows := ints (gat M pOut (l.take i) ++ (r.take j).filterMap pOut) })]) (fun j => j ≤ r.length) (fun j => r.length - j) 0 (Nat.zero_le _) (mkS_le rfl ?_ ?_) ?_
          · simp (maxSteps := 4000000) only [↓reduceIte, Nat.reduceLT, Nat.reduceEqDiff, reduceCtorEq, Nat.reduceAdd, Nat.reduceMul, Int.reduceLE, Int.reduceLT, Int.reduceToNat, Nat.reduceLeDiff, Nat.reduceSub, Int.reduceEq, Nat.reduceBEq, evB, List.filterMap_nil, List.append_nil]
            try rfl
          · simp (maxSteps := 4000000) only [↓reduceIte, Nat.reduceLT, Nat.reduceEqDiff, reduceCtorEq, Nat.reduceAdd, Nat.reduceMul, Int.reduceLE, Int.reduceLT, Int.reduceToNat, Nat.reduceLeDiff, Nat.reduceSub, Int.reduceEq, Nat.reduceBEq, evB, List.filterMap_nil, List.append_nil]
            try rfl
          · intro j hj
            have hol : (gat M pOut (l.take i) ++ (r.take j).filterMap pOut).length ≤ 501 * 1000 := by
              have := List.length_filterMap_le pOut (r.take j)
              rw [List.length_take] at this
              rw [List.length_append]; omega
            by_cases hjlt : j < r.length
            · have d2 : decide ((j : Int) < (r.length : Int)) = true := by simpa using hjlt
              have hwj : IntKind.i64.wrap ((j : Int) + 1) = ((j + 1 : Nat) : Int) := i64_in (by omega) (by omega)
              have hgr := mvs_get hjlt
              have hfs := fm_succ pOut hjlt
              generalize r.getD j (0, 0) = m at *
              have hto : gat M pOut (l.take i) ++ (r.take (j + 1)).filterMap pOut = (gat M pOut (l.take i) ++ (r.take j).filterMap pOut) ++ (match pOut m with | some x => [x] | none => []) := by rw [hfs, List.append_assoc]
              generalize gat M pOut (l.take i) ++ (r.take j).filterMap pOut = o at *
              have hot : List.take o.length o = o := List.take_of_length_le (Nat.le_refl _)
              have hr2 : ∀ z : Int, (∀ row ∈ [[D.v (Value.int IntKind.i64 z)]], row.length = 1) = True := fun z => by simp
              by_cases hc : 0 ≤ m.1
              · have e3 : (decide (m.1 ≥ 0)) = true := by simpa using hc
                have hpp : pOut m = some m.1 := by unfold pOut; rw [if_pos hc]
                rw [hpp] at hto
                simp only at hto
                (repeat (first | refine awp_seq ?_ | refine awp_block ?_ | ((first | refine awp_skip ?_ | refine awp_exit ?_ | refine awp_reg ttok ?_ | (refine awp_draw ttok ?dr_calm ?_; (case dr_calm => decide +kernel)) | refine awp_condM ?_); simp (maxSteps := 4000000) only [↓reduceIte, Nat.reduceLT, Nat.reduceEqDiff, reduceCtorEq, Nat.reduceAdd, Nat.reduceMul, Int.reduceLE, Int.reduceLT, Int.reduceToNat, Nat.reduceLeDiff, Nat.reduceSub, Int.reduceEq, Nat.reduceBEq, evB, tyA, d2, hgr, mvs_len, e3, hwj, ints_len, ints_take, hot, ints_one, ints_app, hr2]; (repeat (with_reducible refine And.intro ?_ ?_; exact sdX)); (with_reducible first | refine awp_id ?_ | refine id_call ?_ | refine id_and ?_ | refine id_ex ?_ | refine id_all ?_ | refine id_nat ?_ | refine id_le ?_))))
                refine ⟨j + 1, by omega, by omega, mkS_le rfl ?_ ?_⟩
                · simp (maxSteps := 4000000) only [↓reduceIte, Nat.reduceLT, Nat.reduceEqDiff, reduceCtorEq, Nat.reduceAdd, Nat.reduceMul, Int.reduceLE, Int.reduceLT, Int.reduceToNat, Nat.reduceLeDiff, Nat.reduceSub, Int.reduceEq, Nat.reduceBEq, evB, hto, List.length_append]
                · simp (maxSteps := 4000000) only [↓reduceIte, Nat.reduceLT, Nat.reduceEqDiff, reduceCtorEq, Nat.reduceAdd, Nat.reduceMul, Int.reduceLE, Int.reduceLT, Int.reduceToNat, Nat.reduceLeDiff, Nat.reduceSub, Int.reduceEq, Nat.reduceBEq, evB, hto, ints_one, ints_app, ints_take, hot]
              · have e3 : (decide (m.1 ≥ 0)) = false := by simpa using hc
                have hpp : pOut m = none := by unfold pOut; rw [if_neg hc]
                rw [hpp] at hto
                simp only [List.append_nil] at hto
                (repeat (first | refine awp_seq ?_ | refine awp_block ?_ | ((first | refine awp_skip ?_ | refine awp_exit ?_ | refine awp_reg ttok ?_ | (refine awp_draw ttok ?dr_calm ?_; (case dr_calm => decide +kernel)) | refine awp_condM ?_); simp (maxSteps := 4000000) only [↓reduceIte, Nat.reduceLT, Nat.reduceEqDiff, reduceCtorEq, Nat.reduceAdd, Nat.reduceMul, Int.reduceLE, Int.reduceLT, Int.reduceToNat, Nat.reduceLeDiff, Nat.reduceSub, Int.reduceEq, Nat.reduceBEq, evB, tyA, d2, hgr, mvs_len, e3, hwj]; (repeat (with_reducible refine And.intro ?_ ?_; exact sdX)); (with_reducible first | refine awp_id ?_ | refine id_call ?_ | refine id_and ?_ | refine id_ex ?_ | refine id_all ?_ | refine id_nat ?_ | refine id_le ?_))))
                refine ⟨j + 1, by omega, by omega, mkS_le rfl ?_ ?_⟩
                · simp (maxSteps := 4000000) only [↓reduceIte, Nat.reduceLT, Nat.reduceEqDiff, reduceCtorEq, Nat.reduceAdd, Nat.reduceMul, Int.reduceLE, Int.reduceLT, Int.reduceToNat, Nat.reduceLeDiff, Nat.reduceSub, Int.reduceEq, Nat.reduceBEq, evB, hto]
                · simp (maxSteps := 4000000) only [↓reduceIte, Nat.reduceLT, Nat.reduceEqDiff, reduceCtorEq, Nat.reduceAdd, Nat.reduceMul, Int.reduceLE, Int.reduceLT, Int.reduceToNat, Nat.reduceLeDiff, Nat.reduceSub, Int.reduceEq, Nat.reduceBEq, evB, hto]
            · have d2 : decide ((j : Int) < (r.length : Int)) = false := by simpa using hjlt
              have hjt : r.take j = r := List.take_of_length_le (by omega)
              (repeat (first | refine awp_seq ?_ | refine awp_block ?_ | ((first | refine awp_skip ?_ | refine awp_exit ?_ | refine awp_reg ttok ?_ | (refine awp_draw ttok ?dr_calm ?_; (case dr_calm => decide +kernel)) | refine awp_condM ?_); simp (maxSteps := 4000000) only [↓reduceIte, Nat.reduceLT, Nat.reduceEqDiff, reduceCtorEq, Nat.reduceAdd, Nat.reduceMul, Int.reduceLE, Int.reduceLT, Int.reduceToNat, Nat.reduceLeDiff, Nat.reduceSub, Int.reduceEq, Nat.reduceBEq, evB, tyA, d2, hwi]; (repeat (with_reducible refine And.intro ?_ ?_; exact sdX)); (with_reducible first | refine awp_id ?_ | refine id_call ?_ | refine id_and ?_ | refine id_ex ?_ | refine id_all ?_ | refine id_nat ?_ | refine id_le ?_))))
              refine ⟨i + 1, by omega, by omega, mkS_le rfl ?_ ?_⟩
              · simp (maxSteps := 4000000) only [↓reduceIte, Nat.reduceLT, Nat.reduceEqDiff, reduceCtorEq, Nat.reduceAdd, Nat.reduceMul, Int.reduceLE, Int.reduceLT, Int.reduceToNat, Nat.reduceLeDiff, Nat.reduceSub, Int.reduceEq, Nat.reduceBEq, evB, hs, hjt]
              · simp (maxSteps := 4000000) only [↓reduceIte, Nat.reduceLT, Nat.reduceEqDiff, reduceCtorEq, Nat.reduceAdd, Nat.reduceMul, Int.reduceLE, Int.reduceLT, Int.reduceToNat, Nat.reduceLeDiff, Nat.reduceSub, Int.reduceEq, Nat.reduceBEq, evB, hs, hjt]
    · have d1 : decide ((i : Int) < (l.length : Int)) = false := by simpa using hlt
      have hlt2 : l.take i = l := List.take_of_length_le (by omega)
      rw [hlt2] at hgi ⊢
      have hres := out_is h l
      generalize gat M pOut l = o at *
      (repeat (first | refine awp_seq ?_ | refine awp_block ?_ | ((first | refine awp_skip ?_ | refine awp_exit ?_ | refine awp_reg ttok ?_ | (refine awp_draw ttok ?dr_calm ?_; (case dr_calm => decide +kernel)) | refine awp_condM ?_); simp (maxSteps := 4000000) only [↓reduceIte, Nat.reduceLT, Nat.reduceEqDiff, reduceCtorEq, Nat.reduceAdd, Nat.reduceMul, Int.reduceLE, Int.reduceLT, Int.reduceToNat, Nat.reduceLeDiff, Nat.reduceSub, Int.reduceEq, Nat.reduceBEq, evB, tyA, d1]; (repeat (with_reducible refine And.intro ?_ ?_; exact sdX)); (with_reducible first | refine awp_id ?_ | refine id_call ?_ | refine id_and ?_ | refine id_ex ?_ | refine id_all ?_ | refine id_nat ?_ | refine id_le ?_))))
      have hsl := sortI_len o
      have hcS := c_SortI o (by omega)
      refine callVC_M [90000] fnok87 hcS (by simp (maxSteps := 4000000) only [↓reduceIte, Nat.reduceLT, Nat.reduceEqDiff, reduceCtorEq, Nat.reduceAdd, Nat.reduceMul, Int.reduceLE, Int.reduceLT, Int.reduceToNat, Nat.reduceLeDiff, Nat.reduceSub, Int.reduceEq, Nat.reduceBEq, evB]; rfl) evX ?_
      simp (maxSteps := 4000000) only [↓reduceIte, Nat.reduceLT, Nat.reduceEqDiff, reduceCtorEq, Nat.reduceAdd, Nat.reduceMul, Int.reduceLE, Int.reduceLT, Int.reduceToNat, Nat.reduceLeDiff, Nat.reduceSub, Int.reduceEq, Nat.reduceBEq, evB, tyA, ints_len]
      (repeat (with_reducible refine And.intro ?_ ?_; exact sdX))
      (repeat (first | refine awp_seq ?_ | refine awp_block ?_ | ((first | refine awp_skip ?_ | refine awp_exit ?_ | refine awp_reg ttok ?_ | (refine awp_draw ttok ?dr_calm ?_; (case dr_calm => decide +kernel)) | refine awp_condM ?_); simp (maxSteps := 4000000) only [↓reduceIte, Nat.reduceLT, Nat.reduceEqDiff, reduceCtorEq, Nat.reduceAdd, Nat.reduceMul, Int.reduceLE, Int.reduceLT, Int.reduceToNat, Nat.reduceLeDiff, Nat.reduceSub, Int.reduceEq, Nat.reduceBEq, evB, tyA]; (repeat (with_reducible refine And.intro ?_ ?_; exact sdX)); (with_reducible first | refine awp_id ?_ | refine id_call ?_ | refine id_and ?_ | refine id_ex ?_ | refine id_all ?_ | refine id_nat ?_ | refine id_le ?_))))
      rw [← hsl]
      have hcC := c_CompactI (sortI o) (by omega)
      have hzl := cpzI_len (sortI o)
      have hcl := cptI_le (sortI o)
      have hct := cpzI_take (sortI o)
      refine callVC_M [90000] fnok88 hcC (by simp (maxSteps := 4000000) only [↓reduceIte, Nat.reduceLT, Nat.reduceEqDiff, reduceCtorEq, Nat.reduceAdd, Nat.reduceMul, Int.reduceLE, Int.reduceLT, Int.reduceToNat, Nat.reduceLeDiff, Nat.reduceSub, Int.reduceEq, Nat.reduceBEq, evB]; rfl) evX ?_
      simp (maxSteps := 4000000) only [↓reduceIte, Nat.reduceLT, Nat.reduceEqDiff, reduceCtorEq, Nat.reduceAdd, Nat.reduceMul, Int.reduceLE, Int.reduceLT, Int.reduceToNat, Nat.reduceLeDiff, Nat.reduceSub, Int.reduceEq, Nat.reduceBEq, evB, tyA, ints_len]
      (repeat (with_reducible refine And.intro ?_ ?_; exact sdX))
      (repeat (first | refine awp_seq ?_ | refine awp_block ?_ | ((first | refine awp_skip ?_ | refine awp_exit ?_ | refine awp_reg ttok ?_ | (refine awp_draw ttok ?dr_calm ?_; (case dr_calm => decide +kernel)) | refine awp_condM ?_); simp (maxSteps := 4000000) only [↓reduceIte, Nat.reduceLT, Nat.reduceEqDiff, reduceCtorEq, Nat.reduceAdd, Nat.reduceMul, Int.reduceLE, Int.reduceLT, Int.reduceToNat, Nat.reduceLeDiff, Nat.reduceSub, Int.reduceEq, Nat.reduceBEq, evB, tyA]; (repeat (with_reducible refine And.intro ?_ ?_; exact sdX)); (with_reducible first | refine awp_id ?_ | refine id_call ?_ | refine id_and ?_ | refine id_ex ?_ | refine id_all ?_ | refine id_nat ?_ | refine id_le ?_))))
      refine awp_pure 4 (d := .own 90000 0 (cptI (sortI o)).length) evX (by simp (maxSteps := 4000000) only [↓reduceIte, Nat.reduceLT, Nat.reduceEqDiff, reduceCtorEq, Nat.reduceAdd, Nat.reduceMul, Int.reduceLE, Int.reduceLT, Int.reduceToNat, Nat.reduceLeDiff, Nat.reduceSub, Int.reduceEq, Nat.reduceBEq, evB]; rfl) (by simp (maxSteps := 4000000) only [↓reduceIte, Nat.reduceLT, Nat.reduceEqDiff, reduceCtorEq, Nat.reduceAdd, Nat.reduceMul, Int.reduceLE, Int.reduceLT, Int.reduceToNat, Nat.reduceLeDiff, Nat.reduceSub, Int.reduceEq, Nat.reduceBEq, evB, ints_len, hzl]; omega) ?_
      rw [hres] at hct
      exact awp_ret (ends_plain (.inr rfl) rfl (by simp (maxSteps := 4000000) only [↓reduceIte, Nat.reduceLT, Nat.reduceEqDiff, reduceCtorEq, Nat.reduceAdd, Nat.reduceMul, Int.reduceLE, Int.reduceLT, Int.reduceToNat, Nat.reduceLeDiff, Nat.reduceSub, Int.reduceEq, Nat.reduceBEq, evB, ints_take, hres, hct]))
structure CI (M : Mv) (l : List Int) (n : Nat) (cur : Option (Nat × Nat)) (seen : List Bool) (todo out : List Int) : Prop where
  len : seen.length = M.length
  nd : out.Nodup
  mem : ∀ y, y ∈ out ↔ ∃ x : Nat, y = (x : Int) ∧ seen.getD x false = true
  er : ∀ x : Nat, seen.getD x false = true → ER M l x
  tod : ∀ y ∈ todo, y ∈ out
  tnd : todo.Nodup
  clo : ∀ s : Nat, (s : Int) ∈ out → (s : Int) ∉ todo → ∀ i, i < (M.getD s []).length → (∀ c j, cur = some (c, j) → s = c → i < j) → ∀ t : Nat, (M.getD s []).getD i (0, 0) = (-1, (t : Int)) → t < M.length → seen.getD t false = true
  base : ∀ i, i < n → ∀ x : Nat, l.getD i 0 = (x : Int) → x < M.length → seen.getD x false = true
section
variable {M : Mv} {l : List Int} {n : Nat} {seen : List Bool} {todo out : List Int}
theorem CI.init (M : Mv) (l : List Int) : CI M l 0 none (List.replicate M.length false) [] [] where
  len := by simp
  nd := by simp
  mem := fun y => by
    simp only [List.not_mem_nil, false_iff, not_exists, not_and]
    intro x _ h
    have := getD_lt_true h
    simp [List.getD, show x < M.length by simpa using this] at h
  er := fun x h => by
    have := getD_lt_true h
    simp [List.getD, show x < M.length by simpa using this] at h
  tod := by simp
  tnd := by simp
  clo := by simp
  base := by simp
theorem CI.add {cur cur' : Option (Nat × Nat)} (h : CI M l n cur seen todo out) {x : Nat} (hx : x < M.length) (hs : seen.getD x false = false) (hr : ER M l x)
    (hc : ∀ s i, (∀ c j, cur' = some (c, j) → s = c → i < j) → (∀ c j, cur = some (c, j) → s = c → i < j) ∨ (M.getD s []).getD i (0, 0) = (-1, (x : Int)) ∨ ∀ t : Nat, (M.getD s []).getD i (0, 0) ≠ (-1, (t : Int))) : CI M l n cur' (seen.set x true) (todo ++ [(x : Int)]) (out ++ [(x : Int)]) where
  len := by rw [List.length_set]; exact h.len
  nd := by
    rw [List.nodup_append]
    refine ⟨h.nd, by simp, fun a ha b hb => ?_⟩
    rw [List.mem_singleton] at hb
    subst hb
    rintro rfl
    obtain ⟨y, e, hy⟩ := (h.mem _).1 ha
    rw [← Int.ofNat_inj.1 e, hs] at hy
    cases hy
  mem := fun y => by
    rw [List.mem_append, List.mem_singleton, h.mem]
    constructor
    · rintro (⟨z, rfl, hz⟩ | rfl)
      · exact ⟨z, rfl, (set_ble seen x).2 z hz⟩
      · exact ⟨x, rfl, getD_set_self (by rw [h.len]; exact hx)⟩
    · rintro ⟨z, rfl, hz⟩
      by_cases e : x = z
      · subst e; exact .inr rfl
      · rw [getD_set_nq e] at hz; exact .inl ⟨z, rfl, hz⟩
  er := fun z hz => by
    by_cases e : x = z
    · subst e; exact hr
    · rw [getD_set_nq e] at hz; exact h.er z hz
  tod := fun y hy => by
    rw [List.mem_append] at hy ⊢
    rcases hy with q | q
    · exact .inl (h.tod y q)
    · exact .inr q
  tnd := by
    rw [List.nodup_append]
    refine ⟨h.tnd, by simp, fun a ha b hb => ?_⟩
    rw [List.mem_singleton] at hb
    subst hb
    rintro rfl
    obtain ⟨y, e, hy⟩ := (h.mem _).1 (h.tod _ ha)
    rw [← Int.ofNat_inj.1 e, hs] at hy
    cases hy
  clo := fun s hso hst i hi hcur t ht htk => by
    have hst' : (s : Int) ∉ todo := fun q => hst (List.mem_append_left _ q)
    have hso' : (s : Int) ∈ out := by
      rcases List.mem_append.1 hso with q | q
      · exact q
      · exact absurd (List.mem_append_right _ q) hst
    rcases hc s i hcur with q | q | q
    · exact (set_ble seen x).2 t (h.clo s hso' hst' i hi q t ht htk)
    · rw [q] at ht
      have : x = t := by
        have := (Prod.mk.inj ht).2
        exact Int.ofNat_inj.1 this
      subst this
      exact getD_set_self (by rw [h.len]; exact hx)
    · exact absurd ht (q t)
  base := fun i hi z hz hzk => (set_ble seen x).2 z (h.base i hi z hz hzk)
theorem CI.base_skip {cur : Option (Nat × Nat)} (h : CI M l n cur seen todo out) (hc : ∀ x : Nat, l.getD n 0 = (x : Int) → x < M.length → seen.getD x false = true) : CI M l (n + 1) cur seen todo out where
  len := h.len
  nd := h.nd
  mem := h.mem
  er := h.er
  tod := h.tod
  tnd := h.tnd
  clo := h.clo
  base := fun i hi x hx hk => by
    rcases Nat.lt_or_ge i n with q | q
    · exact h.base i q x hx hk
    · rw [show i = n by omega] at hx
      exact hc x hx hk
theorem CI.base_add (h : CI M l n none seen todo out) (hn : n < l.length) {x : Nat} (he : l.getD n 0 = (x : Int)) (hx : x < M.length) (hs : seen.getD x false = false) : CI M l (n + 1) none (seen.set x true) (todo ++ [(x : Int)]) (out ++ [(x : Int)]) := by
  have hm : (x : Int) ∈ l := by rw [← he]; simp [List.getD, List.getElem?_eq_getElem hn]
  refine (h.add hx hs (.base hm hx) fun s i q => .inl q).base_skip fun z hz hk => ?_
  rw [he] at hz
  rw [← Int.ofNat_inj.1 hz]
  exact getD_set_self (by rw [h.len]; exact hx)
theorem CI.pop {s : Nat} (h : CI M l n none seen (todo ++ [(s : Int)]) out) : CI M l n (some (s, 0)) seen todo out where
  len := h.len
  nd := h.nd
  mem := h.mem
  er := h.er
  tod := fun y hy => h.tod y (List.mem_append_left _ hy)
  tnd := (List.nodup_append.1 h.tnd).1
  clo := fun z hzo hzt i hi hcur t ht htk => by
    by_cases e : z = s
    · have := hcur s 0 rfl e; omega
    · refine h.clo z hzo (fun q => ?_) i hi (fun _ _ q => by cases q) t ht htk
      rcases List.mem_append.1 q with q | q
      · exact hzt q
      · exact e (Int.ofNat_inj.1 (List.mem_singleton.1 q))
  base := h.base
theorem CI.skip {s j : Nat} (h : CI M l n (some (s, j)) seen todo out) (hc : ∀ t : Nat, (M.getD s []).getD j (0, 0) = (-1, (t : Int)) → t < M.length → seen.getD t false = true) : CI M l n (some (s, j + 1)) seen todo out where
  len := h.len
  nd := h.nd
  mem := h.mem
  er := h.er
  tod := h.tod
  tnd := h.tnd
  clo := fun z hzo hzt i hi hcur t ht htk => by
    by_cases e : z = s
    · have hij := hcur s (j + 1) rfl e
      by_cases g : i = j
      · subst e g; exact hc t ht htk
      · exact h.clo z hzo hzt i hi (fun c j' q q2 => by cases q; omega) t ht htk
    · exact h.clo z hzo hzt i hi (fun c j' q q2 => by cases q; exact absurd q2 e) t ht htk
  base := h.base
theorem CI.add2 {s j : Nat} (h : CI M l n (some (s, j)) seen todo out) {t : Nat} (hso : ER M l s) (hj : j < (M.getD s []).length) (he : (M.getD s []).getD j (0, 0) = (-1, (t : Int))) (ht : t < M.length) (hs : seen.getD t false = false) : CI M l n (some (s, j + 1)) (seen.set t true) (todo ++ [(t : Int)]) (out ++ [(t : Int)]) := by
  have hm : ((-1 : Int), (t : Int)) ∈ M.getD s [] := by
    rw [← he]
    generalize M.getD s [] = r at *
    simp [List.getD, List.getElem?_eq_getElem hj]
  refine h.add ht hs (.step hso hm ht) fun z i q => ?_
  by_cases e : z = s
  · subst e
    have hij := q z (j + 1) rfl rfl
    by_cases g : i = j
    · subst g; exact .inr (.inl he)
    · exact .inl fun c j' q1 q2 => by cases q1; omega
  · exact .inl fun c j' q1 q2 => by cases q1; exact absurd q2 e
theorem CI.done {s : Nat} (h : CI M l n (some (s, (M.getD s []).length)) seen todo out) : CI M l n none seen todo out where
  len := h.len
  nd := h.nd
  mem := h.mem
  er := h.er
  tod := h.tod
  tnd := h.tnd
  clo := fun z hzo hzt i hi hcur t ht htk => h.clo z hzo hzt i hi (fun c j' q q2 => by cases q; rw [q2] at hi; exact hi) t ht htk
  base := h.base
theorem CI.end_ {L k : Nat} (hM : MOk L k M) (h : CI M l l.length none seen [] out) : sortI out = cloL M l := by
  refine sort_nd h.nd (onL_sorted _ _) fun y => ?_
  rw [cloL_mem hM, h.mem]
  constructor
  · rintro ⟨x, rfl, hx⟩; exact ⟨x, rfl, h.er x hx⟩
  · rintro ⟨x, rfl, hx⟩
    refine ⟨x, rfl, ?_⟩
    induction hx with
    | @base x hm hk =>
      obtain ⟨i, hi, e⟩ := List.getElem_of_mem hm
      exact h.base i hi x (by simp [List.getD, List.getElem?_eq_getElem hi, e]) hk
    | @step s t hs hm ht ih =>
      obtain ⟨i, hi, e⟩ := List.getElem_of_mem hm
      have e2 : (M.getD s []).getD i (0, 0) = (-1, (t : Int)) := by
        clear hm
        generalize M.getD s [] = r at *
        simp [List.getD, List.getElem?_eq_getElem hi, e]
      exact h.clo s ((h.mem _).2 ⟨s, rfl, ih⟩) (by simp) i hi (fun _ _ q => by cases q) t e2 ht
theorem filter_split (p : Int → Bool) : ∀ o : List Int, o.length = (o.filter p).length + (o.filter fun y => !p y).length
  | [] => rfl
  | y :: o => by
    have ih := filter_split p o
    cases hp : p y <;> simp [hp] <;> omega
theorem nat_count : ∀ (b : List Bool) (o : List Int), o.Nodup → (∀ y ∈ o, ∃ x : Nat, y = (x : Int) ∧ b.getD x false = true) → o.length ≤ b.count true := by
  intro b
  induction b with
  | nil =>
    intro o _ hm
    cases o with
    | nil => simp
    | cons y o =>
      obtain ⟨x, _, hx⟩ := hm y (by simp)
      simp [List.getD] at hx
  | cons c b ih =>
    intro o hnd hm
    let o2 := (o.filter fun y => decide (y ≠ 0)).map (· - 1)
    have h1 : o2.Nodup := by
      refine List.Pairwise.map _ (fun a b q => by omega) (hnd.filter _)
    have h2 : ∀ y ∈ o2, ∃ x : Nat, y = (x : Int) ∧ b.getD x false = true := fun y hy => by
      obtain ⟨z, hz, rfl⟩ := List.mem_map.1 hy
      obtain ⟨hz1, hz2⟩ := List.mem_filter.1 hz
      obtain ⟨x, rfl, hx⟩ := hm z hz1
      have hx0 : x ≠ 0 := by simpa using hz2
      obtain ⟨x', rfl⟩ := Nat.exists_eq_succ_of_ne_zero hx0
      exact ⟨x', by simp, by simpa using hx⟩
    have h3 := ih o2 h1 h2
    have h4 : o.length ≤ o2.length + (if c = true then 1 else 0) := by
      have e1 : o2.length = (o.filter fun y => decide (y ≠ 0)).length := by simp [o2]
      have e2 : o.length = (o.filter fun y => decide (y ≠ 0)).length + (o.filter fun y => !decide (y ≠ 0)).length := by
        exact filter_split _ o
      have e3 : (o.filter fun y => !decide (y ≠ 0)).length ≤ if c = true then 1 else 0 := by
        have hf : ∀ y ∈ o.filter fun y => !decide (y ≠ 0), y = 0 := fun y hy => by simpa using (List.mem_filter.1 hy).2
        have hnf := hnd.filter fun y => !decide (y ≠ 0)
        cases hq : o.filter fun y => !decide (y ≠ 0) with
        | nil => simp
        | cons y q =>
          rw [hq] at hf hnf
          have hy := hf y (by simp)
          cases q with
          | cons z q =>
            have hz := hf z (by simp)
            subst hy hz
            simp at hnf
          | nil =>
            have hmem : y ∈ o := (List.mem_filter.1 (show y ∈ o.filter fun y => !decide (y ≠ 0) by rw [hq]; simp)).1
            obtain ⟨x, e, hx⟩ := hm y hmem
            have : x = 0 := by omega
            subst this
            have hc : c = true := by simpa using hx
            rw [if_pos hc]; simp
      omega
    rw [List.count_cons]
    cases c <;> simp at h4 ⊢ <;> omega
theorem CI.out_le {cur : Option (Nat × Nat)} (h : CI M l n cur seen todo out) : out.length ≤ seen.count true := nat_count seen out h.nd fun y hy => (h.mem y).1 hy
theorem CI.todo_le {cur : Option (Nat × Nat)} (h : CI M l n cur seen todo out) : todo.length ≤ seen.count true := nat_count seen todo h.tnd fun y hy => (h.mem y).1 (h.tod y hy)
end
set_option maxHeartbeats 1600000 in
theorem c_CloneI (full : Bool) (l : List Int) (hl : l.length * 8 ≤ 140737488355328) : Contract Try.prog 66 [.sl full (ints l)] (.own 0 0 l.length) [{ sz := 1, rows := ints l }] := by
  refine contract_of_awp (rs := [2]) Try.func66 rfl Try.ntmps66 (by simp) rfl fun E => ?_
  (repeat (first | refine awp_seq ?_ | refine awp_block ?_ | ((first | refine awp_skip ?_ | refine awp_exit ?_ | refine awp_reg ttok ?_ | (refine awp_draw ttok ?dr_calm ?_; (case dr_calm => decide +kernel)) | refine awp_condM ?_); simp (maxSteps := 4000000) only [↓reduceIte, Nat.reduceLT, Nat.reduceEqDiff, reduceCtorEq, Nat.reduceAdd, Nat.reduceMul, Int.reduceLE, Int.reduceLT, Int.reduceToNat, Nat.reduceLeDiff, Nat.reduceSub, Int.reduceEq, Nat.reduceBEq, evB, tyA]; (repeat (with_reducible refine And.intro ?_ ?_; exact sdX)); (with_reducible first | refine awp_id ?_ | refine id_call ?_ | refine id_and ?_ | refine id_ex ?_ | refine id_all ?_ | refine id_nat ?_ | refine id_le ?_))))
  intro b hb
  refine awp_cond (t := (b != false)) ?_ (fun h => ?_) (fun h => ?_)
  · exact evX
  · have hl0 : l = [] := by
      have := hb (by simpa using h)
      simpa [ints] using this
    subst hl0
    (repeat (first | refine awp_seq ?_ | refine awp_block ?_ | ((first | refine awp_skip ?_ | refine awp_exit ?_ | refine awp_reg ttok ?_ | (refine awp_draw ttok ?dr_calm ?_; (case dr_calm => decide +kernel)) | refine awp_condM ?_); simp (maxSteps := 4000000) only [↓reduceIte, Nat.reduceLT, Nat.reduceEqDiff, reduceCtorEq, Nat.reduceAdd, Nat.reduceMul, Int.reduceLE, Int.reduceLT, Int.reduceToNat, Nat.reduceLeDiff, Nat.reduceSub, Int.reduceEq, Nat.reduceBEq, evB, tyA]; (repeat (with_reducible refine And.intro ?_ ?_; exact sdX)); (with_reducible first | refine awp_id ?_ | refine id_call ?_ | refine id_and ?_ | refine id_ex ?_ | refine id_all ?_ | refine id_nat ?_ | refine id_le ?_))))
    refine awp_own_nil 2 9000 1 ?_ (by decide) (awp_ret ?_)
    · exact evX
    · exact ends_own (g := 9000) (.inr rfl) (by simp (maxSteps := 4000000) only [↓reduceIte, Nat.reduceLT, Nat.reduceEqDiff, reduceCtorEq, Nat.reduceAdd, Nat.reduceMul, Int.reduceLE, Int.reduceLT, Int.reduceToNat, Nat.reduceLeDiff, Nat.reduceSub, Int.reduceEq, Nat.reduceBEq, evB, St.toOwn]) (by simp (maxSteps := 4000000) only [↓reduceIte, Nat.reduceLT, Nat.reduceEqDiff, reduceCtorEq, Nat.reduceAdd, Nat.reduceMul, Int.reduceLE, Int.reduceLT, Int.reduceToNat, Nat.reduceLeDiff, Nat.reduceSub, Int.reduceEq, Nat.reduceBEq, evB, St.toOwn, ints]) rfl
  · (repeat (first | refine awp_seq ?_ | refine awp_block ?_ | ((first | refine awp_skip ?_ | refine awp_exit ?_ | refine awp_reg ttok ?_ | (refine awp_draw ttok ?dr_calm ?_; (case dr_calm => decide +kernel)) | refine awp_condM ?_); simp (maxSteps := 4000000) only [↓reduceIte, Nat.reduceLT, Nat.reduceEqDiff, reduceCtorEq, Nat.reduceAdd, Nat.reduceMul, Int.reduceLE, Int.reduceLT, Int.reduceToNat, Nat.reduceLeDiff, Nat.reduceSub, Int.reduceEq, Nat.reduceBEq, evB, tyA]; (repeat (with_reducible refine And.intro ?_ ?_; exact sdX)); (with_reducible first | refine awp_id ?_ | refine id_call ?_ | refine id_and ?_ | refine id_ex ?_ | refine id_all ?_ | refine id_nat ?_ | refine id_le ?_))))
    exact awp_ret (ends_own (g := 4000) (.inr rfl) evX evX rfl)
end Go.Proofs.Ytcpipfodedfpkaa
