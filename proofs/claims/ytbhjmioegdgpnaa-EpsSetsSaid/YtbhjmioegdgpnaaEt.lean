import Derived.Test.YtbhjmioegdgpnaaEp
import Derived.Test.YtbhjmioegdgpnaaFin
import Derived.Test.YtbhjmioegdgpnaaTy
set_option linter.unusedSimpArgs false
set_option linter.unusedVariables false
namespace Go.Proofs.Ytbhjmioegdgpnaa
open Go.Ab
structure CI (M : Mv) (l : List Int) (n : Nat) (cur : Option (Nat × Nat)) (seen : List Bool) (todo out : List Int) : Prop where
  len : seen.length = M.length
  nd : out.Nodup
  mem : ∀ y, y ∈ out ↔ ∃ x : Nat, y = (x : Int) ∧ seen.getD x false = true
  er : ∀ x : Nat, seen.getD x false = true → ER M l x
  tod : ∀ y ∈ todo, y ∈ out
  tnd : todo.Nodup
  clo : ∀ s : Nat, (s : Int) ∈ out → (s : Int) ∉ todo → ∀ i, i < (M.getD s []).length → (∀ c j, cur = some (c, j) → s = c → i < j) → ∀ t : Nat, (M.getD s []).getD i (0, 0) = (-1, (t : Int)) → t < M.length → seen.getD t false = true
  base : ∀ i, i < n → ∀ x : Nat, l.getD i 0 = (x : Int) → x < M.length → seen.getD x false = true
section
variable {M : Mv} {l : List Int} {n : Nat} {seen : List Bool} {todo out : List Int}
theorem CI.init (M : Mv) (l : List Int) : CI M l 0 none (List.replicate M.length false) [] [] where
  len := by simp
  nd := by simp
  mem := fun y => by
    simp only [List.not_mem_nil, false_iff, not_exists, not_and]
    intro x _ h
    have := getD_lt_true h
    simp [List.getD, show x < M.length by simpa using this] at h
  er := fun x h => by
    have := getD_lt_true h
    simp [List.getD, show x < M.length by simpa using this] at h
  tod := by simp
  tnd := by simp
  clo := by simp
  base := by simp
theorem CI.add {cur cur' : Option (Nat × Nat)} (h : CI M l n cur seen todo out) {x : Nat} (hx : x < M.length) (hs : seen.getD x false = false) (hr : ER M l x)
    (hc : ∀ s i, (∀ c j, cur' = some (c, j) → s = c → i < j) → (∀ c j, cur = some (c, j) → s = c → i < j) ∨ (M.getD s []).getD i (0, 0) = (-1, (x : Int)) ∨ ∀ t : Nat, (M.getD s []).getD i (0, 0) ≠ (-1, (t : Int))) : CI M l n cur' (seen.set x true) (todo ++ [(x : Int)]) (out ++ [(x : Int)]) where
  len := by rw [List.length_set]; exact h.len
  nd := by
    rw [List.nodup_append]
    refine ⟨h.nd, by simp, fun a ha b hb => ?_⟩
    rw [List.mem_singleton] at hb
    subst hb
    rintro rfl
    obtain ⟨y, e, hy⟩ := (h.mem _).1 ha
    rw [← Int.ofNat_inj.1 e, hs] at hy
    cases hy
  mem := fun y => by
    rw [List.mem_append, List.mem_singleton, h.mem]
    constructor
    · rintro (⟨z, rfl, hz⟩ | rfl)
      · exact ⟨z, rfl, (set_ble seen x).2 z hz⟩
      · exact ⟨x, rfl, getD_set_self (by rw [h.len]; exact hx)⟩
    · rintro ⟨z, rfl, hz⟩
      by_cases e : x = z
      · subst e; exact .inr rfl
      · rw [getD_set_nq e] at hz; exact .inl ⟨z, rfl, hz⟩
  er := fun z hz => by
    by_cases e : x = z
    · subst e; exact hr
    · rw [getD_set_nq e] at hz; exact h.er z hz
  tod := fun y hy => by
    rw [List.mem_append] at hy ⊢
    rcases hy with q | q
    · exact .inl (h.tod y q)
    · exact .inr q
  tnd := by
    rw [List.nodup_append]
    refine ⟨h.tnd, by simp, fun a ha b hb => ?_⟩
    rw [List.mem_singleton] at hb
    subst hb
    rintro rfl
    obtain ⟨y, e, hy⟩ := (h.mem _).1 (h.tod _ ha)
    rw [← Int.ofNat_inj.1 e, hs] at hy
    cases hy
  clo := fun s hso hst i hi hcur t ht htk => by
    have hst' : (s : Int) ∉ todo := fun q => hst (List.mem_append_left _ q)
    have hso' : (s : Int) ∈ out := by
      rcases List.mem_append.1 hso with q | q
      · exact q
      · exact absurd (List.mem_append_right _ q) hst
    rcases hc s i hcur with q | q | q
    · exact (set_ble seen x).2 t (h.clo s hso' hst' i hi q t ht htk)
    · rw [q] at ht
      have : x = t := by
        have := (Prod.mk.inj ht).2
        exact Int.ofNat_inj.1 this
      subst this
      exact getD_set_self (by rw [h.len]; exact hx)
    · exact absurd ht (q t)
  base := fun i hi z hz hzk => (set_ble seen x).2 z (h.base i hi z hz hzk)
theorem CI.base_skip {cur : Option (Nat × Nat)} (h : CI M l n cur seen todo out) (hc : ∀ x : Nat, l.getD n 0 = (x : Int) → x < M.length → seen.getD x false = true) : CI M l (n + 1) cur seen todo out where
  len := h.len
  nd := h.nd
  mem := h.mem
  er := h.er
  tod := h.tod
  tnd := h.tnd
  clo := h.clo
  base := fun i hi x hx hk => by
    rcases Nat.lt_or_ge i n with q | q
    · exact h.base i q x hx hk
    · rw [show i = n by omega] at hx
      exact hc x hx hk
theorem CI.base_add (h : CI M l n none seen todo out) (hn : n < l.length) {x : Nat} (he : l.getD n 0 = (x : Int)) (hx : x < M.length) (hs : seen.getD x false = false) : CI M l (n + 1) none (seen.set x true) (todo ++ [(x : Int)]) (out ++ [(x : Int)]) := by
  have hm : (x : Int) ∈ l := by rw [← he]; simp [List.getD, List.getElem?_eq_getElem hn]
  refine (h.add hx hs (.base hm hx) fun s i q => .inl q).base_skip fun z hz hk => ?_
  rw [he] at hz
  rw [← Int.ofNat_inj.1 hz]
  exact getD_set_self (by rw [h.len]; exact hx)
theorem CI.pop {s : Nat} (h : CI M l n none seen (todo ++ [(s : Int)]) out) : CI M l n (some (s, 0)) seen todo out where
  len := h.len
  nd := h.nd
  mem := h.mem
  er := h.er
  tod := fun y hy => h.tod y (List.mem_append_left _ hy)
  tnd := (List.nodup_append.1 h.tnd).1
  clo := fun z hzo hzt i hi hcur t ht htk => by
    by_cases e : z = s
    · have := hcur s 0 rfl e; omega
    · refine h.clo z hzo (fun q => ?_) i hi (fun _ _ q => by cases q) t ht htk
      rcases List.mem_append.1 q with q | q
      · exact hzt q
      · exact e (Int.ofNat_inj.1 (List.mem_singleton.1 q))
  base := h.base
theorem CI.skip {s j : Nat} (h : CI M l n (some (s, j)) seen todo out) (hc : ∀ t : Nat, (M.getD s []).getD j (0, 0) = (-1, (t : Int)) → t < M.length → seen.getD t false = true) : CI M l n (some (s, j + 1)) seen todo out where
  len := h.len
  nd := h.nd
  mem := h.mem
  er := h.er
  tod := h.tod
  tnd := h.tnd
  clo := fun z hzo hzt i hi hcur t ht htk => by
    by_cases e : z = s
    · have hij := hcur s (j + 1) rfl e
      by_cases g : i = j
      · subst e g; exact hc t ht htk
      · exact h.clo z hzo hzt i hi (fun c j' q q2 => by cases q; omega) t ht htk
    · exact h.clo z hzo hzt i hi (fun c j' q q2 => by cases q; exact absurd q2 e) t ht htk
  base := h.base
theorem CI.add2 {s j : Nat} (h : CI M l n (some (s, j)) seen todo out) {t : Nat} (hso : ER M l s) (hj : j < (M.getD s []).length) (he : (M.getD s []).getD j (0, 0) = (-1, (t : Int))) (ht : t < M.length) (hs : seen.getD t false = false) : CI M l n (some (s, j + 1)) (seen.set t true) (todo ++ [(t : Int)]) (out ++ [(t : Int)]) := by
  have hm : ((-1 : Int), (t : Int)) ∈ M.getD s [] := by
    rw [← he]
    generalize M.getD s [] = r at *
    simp [List.getD, List.getElem?_eq_getElem hj]
  refine h.add ht hs (.step hso hm ht) fun z i q => ?_
  by_cases e : z = s
  · subst e
    have hij := q z (j + 1) rfl rfl
    by_cases g : i = j
    · subst g; exact .inr (.inl he)
    · exact .inl fun c j' q1 q2 => by cases q1; omega
  · exact .inl fun c j' q1 q2 => by cases q1; exact absurd q2 e
theorem CI.done {s : Nat} (h : CI M l n (some (s, (M.getD s []).length)) seen todo out) : CI M l n none seen todo out where
  len := h.len
  nd := h.nd
  mem := h.mem
  er := h.er
  tod := h.tod
  tnd := h.tnd
  clo := fun z hzo hzt i hi hcur t ht htk => h.clo z hzo hzt i hi (fun c j' q q2 => by cases q; rw [q2] at hi; exact hi) t ht htk
  base := h.base
theorem CI.end_ {L k : Nat} (hM : MOk L k M) (h : CI M l l.length none seen [] out) : sortI out = cloL M l := by
  refine sort_nd h.nd (onL_sorted _ _) fun y => ?_
  rw [cloL_mem hM, h.mem]
  constructor
  · rintro ⟨x, rfl, hx⟩; exact ⟨x, rfl, h.er x hx⟩
  · rintro ⟨x, rfl, hx⟩
    refine ⟨x, rfl, ?_⟩
    induction hx with
    | @base x hm hk =>
      obtain ⟨i, hi, e⟩ := List.getElem_of_mem hm
      exact h.base i hi x (by simp [List.getD, List.getElem?_eq_getElem hi, e]) hk
    | @step s t hs hm ht ih =>
      obtain ⟨i, hi, e⟩ := List.getElem_of_mem hm
      have e2 : (M.getD s []).getD i (0, 0) = (-1, (t : Int)) := by
        clear hm
        generalize M.getD s [] = r at *
        simp [List.getD, List.getElem?_eq_getElem hi, e]
      exact h.clo s ((h.mem _).2 ⟨s, rfl, ih⟩) (by simp) i hi (fun _ _ q => by cases q) t e2 ht
theorem filter_split (p : Int → Bool) : ∀ o : List Int, o.length = (o.filter p).length + (o.filter fun y => !p y).length
  | [] => rfl
  | y :: o => by
    have ih := filter_split p o
    cases hp : p y <;> simp [hp] <;> omega
theorem nat_count : ∀ (b : List Bool) (o : List Int), o.Nodup → (∀ y ∈ o, ∃ x : Nat, y = (x : Int) ∧ b.getD x false = true) → o.length ≤ b.count true := by
  intro b
  induction b with
  | nil =>
    intro o _ hm
    cases o with
    | nil => simp
    | cons y o =>
      obtain ⟨x, _, hx⟩ := hm y (by simp)
      simp [List.getD] at hx
  | cons c b ih =>
    intro o hnd hm
    let o2 := (o.filter fun y => decide (y ≠ 0)).map (· - 1)
    have h1 : o2.Nodup := by
      refine List.Pairwise.map _ (fun a b q => by omega) (hnd.filter _)
    have h2 : ∀ y ∈ o2, ∃ x : Nat, y = (x : Int) ∧ b.getD x false = true := fun y hy => by
      obtain ⟨z, hz, rfl⟩ := List.mem_map.1 hy
      obtain ⟨hz1, hz2⟩ := List.mem_filter.1 hz
      obtain ⟨x, rfl, hx⟩ := hm z hz1
      have hx0 : x ≠ 0 := by simpa using hz2
      obtain ⟨x', rfl⟩ := Nat.exists_eq_succ_of_ne_zero hx0
      exact ⟨x', by simp, by simpa using hx⟩
    have h3 := ih o2 h1 h2
    have h4 : o.length ≤ o2.length + (if c = true then 1 else 0) := by
      have e1 : o2.length = (o.filter fun y => decide (y ≠ 0)).length := by simp [o2]
      have e2 : o.length = (o.filter fun y => decide (y ≠ 0)).length + (o.filter fun y => !decide (y ≠ 0)).length := by
        exact filter_split _ o
      have e3 : (o.filter fun y => !decide (y ≠ 0)).length ≤ if c = true then 1 else 0 := by
        have hf : ∀ y ∈ o.filter fun y => !decide (y ≠ 0), y = 0 := fun y hy => by simpa using (List.mem_filter.1 hy).2
        have hnf := hnd.filter fun y => !decide (y ≠ 0)
        cases hq : o.filter fun y => !decide (y ≠ 0) with
        | nil => simp
        | cons y q =>
          rw [hq] at hf hnf
          have hy := hf y (by simp)
          cases q with
          | cons z q =>
            have hz := hf z (by simp)
            subst hy hz
            simp at hnf
          | nil =>
            have hmem : y ∈ o := (List.mem_filter.1 (show y ∈ o.filter fun y => !decide (y ≠ 0) by rw [hq]; simp)).1
            obtain ⟨x, e, hx⟩ := hm y hmem
            have : x = 0 := by omega
            subst this
            have hc : c = true := by simpa using hx
            rw [if_pos hc]; simp
      omega
    rw [List.count_cons]
    cases c <;> simp at h4 ⊢ <;> omega
theorem CI.out_le {cur : Option (Nat × Nat)} (h : CI M l n cur seen todo out) : out.length ≤ seen.count true := nat_count seen out h.nd fun y hy => (h.mem y).1 hy
theorem CI.todo_le {cur : Option (Nat × Nat)} (h : CI M l n cur seen todo out) : todo.length ≤ seen.count true := nat_count seen todo h.tnd fun y hy => (h.mem y).1 (h.tod y hy)
end
set_option maxHeartbeats 1600000 in
theorem c_CloneI (full : Bool) (l : List Int) (hl : l.length * 8 ≤ 140737488355328) : Contract Try.prog 30 [.sl full (ints l)] (.own 0 0 l.length) [{ sz := 1, rows := ints l }] := by
  refine contract_of_awp (rs := [2]) Try.func30 rfl Try.ntmps30 (by simp) rfl fun E => ?_
  (repeat (first | refine awp_seq ?_ | refine awp_block ?_ | ((first | refine awp_skip ?_ | refine awp_exit ?_ | refine awp_reg ttok ?_ | (refine awp_draw ttok ?dr_calm ?_; (case dr_calm => decide +kernel)) | refine awp_condM ?_); simp (maxSteps := 4000000) only [↓reduceIte, Nat.reduceLT, Nat.reduceEqDiff, reduceCtorEq, Nat.reduceAdd, Nat.reduceMul, Int.reduceLE, Int.reduceLT, Int.reduceToNat, Nat.reduceLeDiff, Nat.reduceSub, Int.reduceEq, Nat.reduceBEq, List.replicate, List.set, evB, tyA]; (repeat (with_reducible refine And.intro ?_ ?_; exact sdX)); (with_reducible first | refine awp_id ?_ | refine id_call ?_ | refine id_and ?_ | refine id_ex ?_ | refine id_all ?_ | refine id_nat ?_ | refine id_le ?_))))
  intro b hb
  refine awp_cond (t := (b != false)) ?_ (fun h => ?_) (fun h => ?_)
  · exact evX
  · have hl0 : l = [] := by
      have := hb (by simpa using h)
      simpa [ints] using this
    subst hl0
    (repeat (first | refine awp_seq ?_ | refine awp_block ?_ | ((first | refine awp_skip ?_ | refine awp_exit ?_ | refine awp_reg ttok ?_ | (refine awp_draw ttok ?dr_calm ?_; (case dr_calm => decide +kernel)) | refine awp_condM ?_); simp (maxSteps := 4000000) only [↓reduceIte, Nat.reduceLT, Nat.reduceEqDiff, reduceCtorEq, Nat.reduceAdd, Nat.reduceMul, Int.reduceLE, Int.reduceLT, Int.reduceToNat, Nat.reduceLeDiff, Nat.reduceSub, Int.reduceEq, Nat.reduceBEq, List.replicate, List.set, evB, tyA]; (repeat (with_reducible refine And.intro ?_ ?_; exact sdX)); (with_reducible first | refine awp_id ?_ | refine id_call ?_ | refine id_and ?_ | refine id_ex ?_ | refine id_all ?_ | refine id_nat ?_ | refine id_le ?_))))
    refine awp_own_nil 2 9000 1 ?_ (by decide) (awp_ret ?_)
    · exact evX
    · exact ends_own (g := 9000) (.inr rfl) (by simp (maxSteps := 4000000) only [↓reduceIte, Nat.reduceLT, Nat.reduceEqDiff, reduceCtorEq, Nat.reduceAdd, Nat.reduceMul, Int.reduceLE, Int.reduceLT, Int.reduceToNat, Nat.reduceLeDiff, Nat.reduceSub, Int.reduceEq, Nat.reduceBEq, List.replicate, List.set, evB, St.toOwn]) (by simp (maxSteps := 4000000) only [↓reduceIte, Nat.reduceLT, Nat.reduceEqDiff, reduceCtorEq, Nat.reduceAdd, Nat.reduceMul, Int.reduceLE, Int.reduceLT, Int.reduceToNat, Nat.reduceLeDiff, Nat.reduceSub, Int.reduceEq, Nat.reduceBEq, List.replicate, List.set, evB, St.toOwn, ints]) rfl
  · (repeat (first | refine awp_seq ?_ | refine awp_block ?_ | ((first | refine awp_skip ?_ | refine awp_exit ?_ | refine awp_reg ttok ?_ | (refine awp_draw ttok ?dr_calm ?_; (case dr_calm => decide +kernel)) | refine awp_condM ?_); simp (maxSteps := 4000000) only [↓reduceIte, Nat.reduceLT, Nat.reduceEqDiff, reduceCtorEq, Nat.reduceAdd, Nat.reduceMul, Int.reduceLE, Int.reduceLT, Int.reduceToNat, Nat.reduceLeDiff, Nat.reduceSub, Int.reduceEq, Nat.reduceBEq, List.replicate, List.set, evB, tyA]; (repeat (with_reducible refine And.intro ?_ ?_; exact sdX)); (with_reducible first | refine awp_id ?_ | refine id_call ?_ | refine id_and ?_ | refine id_ex ?_ | refine id_all ?_ | refine id_nat ?_ | refine id_le ?_))))
    exact awp_ret (ends_own (g := 4000) (.inr rfl) evX evX rfl)
set_option maxHeartbeats 1600000 in
theorem c_Same (f g : Bool) (l m : List Int) (hl : l.length ≤ 9223372036854775807) : Contract Try.prog 13 [.sl f (ints l), .sl g (ints m)] (bo (l == m)) [] := by
  refine contract_of_awp (rs := [4]) Try.func13 rfl Try.ntmps13 (by simp) rfl fun E => ?_
  (repeat (first | refine awp_seq ?_ | refine awp_block ?_ | ((first | refine awp_skip ?_ | refine awp_exit ?_ | refine awp_reg ttok ?_ | (refine awp_draw ttok ?dr_calm ?_; (case dr_calm => decide +kernel)) | refine awp_condM ?_); simp (maxSteps := 4000000) only [↓reduceIte, Nat.reduceLT, Nat.reduceEqDiff, reduceCtorEq, Nat.reduceAdd, Nat.reduceMul, Int.reduceLE, Int.reduceLT, Int.reduceToNat, Nat.reduceLeDiff, Nat.reduceSub, Int.reduceEq, Nat.reduceBEq, List.replicate, List.set, evB, tyA]; (repeat (with_reducible refine And.intro ?_ ?_; exact sdX)); (with_reducible first | refine awp_id ?_ | refine id_call ?_ | refine id_and ?_ | refine id_ex ?_ | refine id_all ?_ | refine id_nat ?_ | refine id_le ?_))))
  refine awp_cond (t := ((l.length : Int) != (m.length : Int))) evX (fun h => ?_) (fun h => ?_)
  · (repeat (first | refine awp_seq ?_ | refine awp_block ?_ | ((first | refine awp_skip ?_ | refine awp_exit ?_ | refine awp_reg ttok ?_ | (refine awp_draw ttok ?dr_calm ?_; (case dr_calm => decide +kernel)) | refine awp_condM ?_); simp (maxSteps := 4000000) only [↓reduceIte, Nat.reduceLT, Nat.reduceEqDiff, reduceCtorEq, Nat.reduceAdd, Nat.reduceMul, Int.reduceLE, Int.reduceLT, Int.reduceToNat, Nat.reduceLeDiff, Nat.reduceSub, Int.reduceEq, Nat.reduceBEq, List.replicate, List.set, evB, tyA]; (repeat (with_reducible refine And.intro ?_ ?_; exact sdX)); (with_reducible first | refine awp_id ?_ | refine id_call ?_ | refine id_and ?_ | refine id_ex ?_ | refine id_all ?_ | refine id_nat ?_ | refine id_le ?_))))
    have hne : l ≠ m := by rintro rfl; simp at h
    have hv : (l == m) = false := by simpa using hne
    rw [hv]
    exact awp_ret (ends_plain (.inr rfl) rfl evX)
  · have hlm : l.length = m.length := by simp at h; omega
    (repeat (first | refine awp_seq ?_ | refine awp_block ?_ | ((first | refine awp_skip ?_ | refine awp_exit ?_ | refine awp_reg ttok ?_ | (refine awp_draw ttok ?dr_calm ?_; (case dr_calm => decide +kernel)) | refine awp_condM ?_); simp (maxSteps := 4000000) only [↓reduceIte, Nat.reduceLT, Nat.reduceEqDiff, reduceCtorEq, Nat.reduceAdd, Nat.reduceMul, Int.reduceLE, Int.reduceLT, Int.reduceToNat, Nat.reduceLeDiff, Nat.reduceSub, Int.reduceEq, Nat.reduceBEq, List.replicate, List.set, evB, tyA]; (repeat (with_reducible refine And.intro ?_ ?_; exact sdX)); (with_reducible first | refine awp_id ?_ | refine id_call ?_ | refine id_and ?_ | refine id_ex ?_ | refine id_all ?_ | refine id_nat ?_ | refine id_le ?_))))
    refine awp_loop (X := Nat) (fun k => mkS 26 [(0, .sl f (ints l)), (1, .sl g (ints m)), (5, i64 k)] []) (fun k => k ≤ l.length ∧ l.take k = m.take k) (fun k => l.length - k) 0 ⟨by omega, by simp⟩ (mkS_le rfl ?_ trivial) ?_
    · simp (maxSteps := 4000000) only [↓reduceIte, Nat.reduceLT, Nat.reduceEqDiff, reduceCtorEq, Nat.reduceAdd, Nat.reduceMul, Int.reduceLE, Int.reduceLT, Int.reduceToNat, Nat.reduceLeDiff, Nat.reduceSub, Int.reduceEq, Nat.reduceBEq, List.replicate, List.set, evB]
      rfl
    · intro k ⟨hk, htk⟩
      (repeat (first | refine awp_seq ?_ | refine awp_block ?_ | ((first | refine awp_skip ?_ | refine awp_exit ?_ | refine awp_reg ttok ?_ | (refine awp_draw ttok ?dr_calm ?_; (case dr_calm => decide +kernel)) | refine awp_condM ?_); simp (maxSteps := 4000000) only [↓reduceIte, Nat.reduceLT, Nat.reduceEqDiff, reduceCtorEq, Nat.reduceAdd, Nat.reduceMul, Int.reduceLE, Int.reduceLT, Int.reduceToNat, Nat.reduceLeDiff, Nat.reduceSub, Int.reduceEq, Nat.reduceBEq, List.replicate, List.set, evB, tyA]; (repeat (with_reducible refine And.intro ?_ ?_; exact sdX)); (with_reducible first | refine awp_id ?_ | refine id_call ?_ | refine id_and ?_ | refine id_ex ?_ | refine id_all ?_ | refine id_nat ?_ | refine id_le ?_))))
      refine awp_cond (t := decide ((k : Int) < (l.length : Int))) evX (fun h => ?_) (fun h => ?_)
      · simp only [decide_eq_true_eq] at h
        have hk' : k < l.length := by omega
        have g1 := ints_get hk'
        have g2 := ints_get (l := m) (i := k) (by omega)
        have hw : IntKind.i64.wrap ((k : Int) + 1) = ((k + 1 : Nat) : Int) := i64_in (by omega) (by omega)
        (repeat (first | refine awp_seq ?_ | refine awp_block ?_ | ((first | refine awp_skip ?_ | refine awp_exit ?_ | refine awp_reg ttok ?_ | (refine awp_draw ttok ?dr_calm ?_; (case dr_calm => decide +kernel)) | refine awp_condM ?_); simp (maxSteps := 4000000) only [↓reduceIte, Nat.reduceLT, Nat.reduceEqDiff, reduceCtorEq, Nat.reduceAdd, Nat.reduceMul, Int.reduceLE, Int.reduceLT, Int.reduceToNat, Nat.reduceLeDiff, Nat.reduceSub, Int.reduceEq, Nat.reduceBEq, List.replicate, List.set, evB, tyA, g1, g2]; (repeat (with_reducible refine And.intro ?_ ?_; exact sdX)); (with_reducible first | refine awp_id ?_ | refine id_call ?_ | refine id_and ?_ | refine id_ex ?_ | refine id_all ?_ | refine id_nat ?_ | refine id_le ?_))))
        refine awp_cond (t := (l.getD k 0 != m.getD k 0)) evX (fun h2 => ?_) (fun h2 => ?_)
        · (repeat (first | refine awp_seq ?_ | refine awp_block ?_ | ((first | refine awp_skip ?_ | refine awp_exit ?_ | refine awp_reg ttok ?_ | (refine awp_draw ttok ?dr_calm ?_; (case dr_calm => decide +kernel)) | refine awp_condM ?_); simp (maxSteps := 4000000) only [↓reduceIte, Nat.reduceLT, Nat.reduceEqDiff, reduceCtorEq, Nat.reduceAdd, Nat.reduceMul, Int.reduceLE, Int.reduceLT, Int.reduceToNat, Nat.reduceLeDiff, Nat.reduceSub, Int.reduceEq, Nat.reduceBEq, List.replicate, List.set, evB, tyA]; (repeat (with_reducible refine And.intro ?_ ?_; exact sdX)); (with_reducible first | refine awp_id ?_ | refine id_call ?_ | refine id_and ?_ | refine id_ex ?_ | refine id_all ?_ | refine id_nat ?_ | refine id_le ?_))))
          have hne : l ≠ m := by rintro rfl; simp at h2
          have hv : (l == m) = false := by simpa using hne
          rw [hv]
          exact awp_ret (ends_plain (.inr rfl) rfl evX)
        · (repeat (first | refine awp_seq ?_ | refine awp_block ?_ | ((first | refine awp_skip ?_ | refine awp_exit ?_ | refine awp_reg ttok ?_ | (refine awp_draw ttok ?dr_calm ?_; (case dr_calm => decide +kernel)) | refine awp_condM ?_); simp (maxSteps := 4000000) only [↓reduceIte, Nat.reduceLT, Nat.reduceEqDiff, reduceCtorEq, Nat.reduceAdd, Nat.reduceMul, Int.reduceLE, Int.reduceLT, Int.reduceToNat, Nat.reduceLeDiff, Nat.reduceSub, Int.reduceEq, Nat.reduceBEq, List.replicate, List.set, evB, tyA, hw]; (repeat (with_reducible refine And.intro ?_ ?_; exact sdX)); (with_reducible first | refine awp_id ?_ | refine id_call ?_ | refine id_and ?_ | refine id_ex ?_ | refine id_all ?_ | refine id_nat ?_ | refine id_le ?_))))
          refine ⟨k + 1, ⟨by omega, ?_⟩, by omega, mkS_le rfl ?_ trivial⟩
          · have h3 : l.getD k 0 = m.getD k 0 := by simpa using h2
            have e1 : l[k]? = some (l.getD k 0) := by simp [List.getD, List.getElem?_eq_getElem hk']
            have e2 : m[k]? = some (m.getD k 0) := by simp [List.getD, List.getElem?_eq_getElem (show k < m.length by omega)]
            rw [List.take_add_one, List.take_add_one, htk, e1, e2, h3]
          · exact evX
      · simp only [decide_eq_false_iff_not] at h
        have hkl : k = l.length := by omega
        (repeat (first | refine awp_seq ?_ | refine awp_block ?_ | ((first | refine awp_skip ?_ | refine awp_exit ?_ | refine awp_reg ttok ?_ | (refine awp_draw ttok ?dr_calm ?_; (case dr_calm => decide +kernel)) | refine awp_condM ?_); simp (maxSteps := 4000000) only [↓reduceIte, Nat.reduceLT, Nat.reduceEqDiff, reduceCtorEq, Nat.reduceAdd, Nat.reduceMul, Int.reduceLE, Int.reduceLT, Int.reduceToNat, Nat.reduceLeDiff, Nat.reduceSub, Int.reduceEq, Nat.reduceBEq, List.replicate, List.set, evB, tyA]; (repeat (with_reducible refine And.intro ?_ ?_; exact sdX)); (with_reducible first | refine awp_id ?_ | refine id_call ?_ | refine id_and ?_ | refine id_ex ?_ | refine id_all ?_ | refine id_nat ?_ | refine id_le ?_))))
        have hv : (l == m) = true := by
          rw [hkl, List.take_of_length_le (by omega), List.take_of_length_le (by omega)] at htk
          simpa using htk
        rw [hv]
        exact awp_ret (ends_plain (.inr rfl) rfl evX)
theorem noI_intsE (l : List Int) : AObj.noI { sz := 1, rows := ints l } = true := by
  simp [AObj.noI, ints, D.noIL, D.noI]
set_option maxRecDepth 20000 in
set_option maxHeartbeats 32000000 in
theorem c_EClose {L k : Nat} {M : Mv} (h : MOk L k M) (hk : 1 ≤ k ∧ k ≤ 2000) (st : Nat) (F : List Bool) (f : Bool) (l : List Int) (hl : l.length ≤ 100000) (hR : ∀ s, (M.getD s []).length ≤ 1000) :
    Contract Try.prog 15 [nfaD L st F M, .sl f (ints l)] (.sl false (ints (cloL M l))) [] := by
  refine contract_of_awp (rs := [4]) Try.func15 rfl Try.ntmps15 (by simp) rfl fun E => ?_
  have hkl := h.len
  have zb : List.replicate k (List.map ofAtom (Value.bool false).cells.toList) = bos (List.replicate k false) := by simp only [bos, List.map_replicate]; rfl
  have zb2 : List.replicate (k : Int).toNat [D.v (Value.bool false)] = bos (List.replicate k false) := by simp [bos]
  have hcnt : ∀ b : List Bool, b.length = M.length → b.count true ≤ k := fun b hb => by
    have := List.count_le_length (a := true) (l := b)
    omega
  ((repeat (first | refine awp_seq ?_ | refine awp_block ?_)); ((first | refine awp_skip ?_ | refine awp_exit ?_ | refine awp_reg ttok ?_ | (refine awp_draw ttok ?dr_calm ?_; (case dr_calm => decide +kernel)) | refine awp_condM ?_); simp (maxSteps := 4000000) only [↓reduceIte, Nat.reduceLT, Nat.reduceEqDiff, reduceCtorEq, Nat.reduceAdd, Nat.reduceMul, Int.reduceLE, Int.reduceLT, Int.reduceToNat, Nat.reduceLeDiff, Nat.reduceSub, Int.reduceEq, Nat.reduceBEq, List.replicate, List.set, evB, tyA, nfaD, mmv_len, hkl, zb, zb2]; (repeat (with_reducible refine And.intro ?_ ?_; exact sdX)); (with_reducible first | refine awp_id ?_ | refine id_call ?_ | refine id_and ?_ | refine id_ex ?_ | refine id_all ?_ | refine id_nat ?_ | refine id_le ?_)))
  ((repeat (first | refine awp_seq ?_ | refine awp_block ?_)); ((first | refine awp_skip ?_ | refine awp_exit ?_ | refine awp_reg ttok ?_ | (refine awp_draw ttok ?dr_calm ?_; (case dr_calm => decide +kernel)) | refine awp_condM ?_); simp (maxSteps := 4000000) only [↓reduceIte, Nat.reduceLT, Nat.reduceEqDiff, reduceCtorEq, Nat.reduceAdd, Nat.reduceMul, Int.reduceLE, Int.reduceLT, Int.reduceToNat, Nat.reduceLeDiff, Nat.reduceSub, Int.reduceEq, Nat.reduceBEq, List.replicate, List.set, evB, tyA, mmv_len, hkl, zb, zb2]; (repeat (with_reducible refine And.intro ?_ ?_; exact sdX)); (with_reducible first | refine awp_id ?_ | refine id_call ?_ | refine id_and ?_ | refine id_ex ?_ | refine id_all ?_ | refine id_nat ?_ | refine id_le ?_)))
  ((repeat (first | refine awp_seq ?_ | refine awp_block ?_)); ((first | refine awp_skip ?_ | refine awp_exit ?_ | refine awp_reg ttok ?_ | (refine awp_draw ttok ?dr_calm ?_; (case dr_calm => decide +kernel)) | refine awp_condM ?_); simp (maxSteps := 4000000) only [↓reduceIte, Nat.reduceLT, Nat.reduceEqDiff, reduceCtorEq, Nat.reduceAdd, Nat.reduceMul, Int.reduceLE, Int.reduceLT, Int.reduceToNat, Nat.reduceLeDiff, Nat.reduceSub, Int.reduceEq, Nat.reduceBEq, List.replicate, List.set, evB, tyA]; (repeat (with_reducible refine And.intro ?_ ?_; exact sdX)); (with_reducible first | refine awp_id ?_ | refine id_call ?_ | refine id_and ?_ | refine id_ex ?_ | refine id_all ?_ | refine id_nat ?_ | refine id_le ?_)))
  refine awp_own_nil 6 90000 1 evX (by decide) ?_
  (repeat (first | refine awp_seq ?_ | refine awp_block ?_ | ((first | refine awp_skip ?_ | refine awp_exit ?_ | refine awp_reg ttok ?_ | (refine awp_draw ttok ?dr_calm ?_; (case dr_calm => decide +kernel)) | refine awp_condM ?_); simp (maxSteps := 4000000) only [↓reduceIte, Nat.reduceLT, Nat.reduceEqDiff, reduceCtorEq, Nat.reduceAdd, Nat.reduceMul, Int.reduceLE, Int.reduceLT, Int.reduceToNat, Nat.reduceLeDiff, Nat.reduceSub, Int.reduceEq, Nat.reduceBEq, List.replicate, List.set, evB, tyA, St.toOwn]; (repeat (with_reducible refine And.intro ?_ ?_; exact sdX)); (with_reducible first | refine awp_id ?_ | refine id_call ?_ | refine id_and ?_ | refine id_ex ?_ | refine id_all ?_ | refine id_nat ?_ | refine id_le ?_))))
  refine awp_loop (X := Nat × List Bool × List Int) (fun x => mkS 113 [(2, .ptr 1000 0 0), (5, .own 2003 0 k), (6, .own 90000 0 x.2.2.length), (17, .sl f (ints l)), (18, i64 l.length), (19, i64 x.1)]
      [(1000, { sz := 4, rows := [[i64 L, i64 st, .sl false (bos F), .sl false (mmv M)]], flat := false }), (2003, { sz := 1, rows := bos x.2.1 }), (90000, { sz := 1, rows := ints x.2.2 })]) (fun x => x.1 ≤ l.length ∧ CI M l x.1 none x.2.1 x.2.2 x.2.2) (fun x => l.length - x.1) (0, List.replicate M.length false, []) ⟨Nat.zero_le _, CI.init M l⟩ (mkS_le rfl ?_ ?_) ?_
  · simp (maxSteps := 4000000) only [↓reduceIte, Nat.reduceLT, Nat.reduceEqDiff, reduceCtorEq, Nat.reduceAdd, Nat.reduceMul, Int.reduceLE, Int.reduceLT, Int.reduceToNat, Nat.reduceLeDiff, Nat.reduceSub, Int.reduceEq, Nat.reduceBEq, List.replicate, List.set, evB, List.length_nil]
    try rfl
  · simp (maxSteps := 4000000) only [↓reduceIte, Nat.reduceLT, Nat.reduceEqDiff, reduceCtorEq, Nat.reduceAdd, Nat.reduceMul, Int.reduceLE, Int.reduceLT, Int.reduceToNat, Nat.reduceLeDiff, Nat.reduceSub, Int.reduceEq, Nat.reduceBEq, List.replicate, List.set, evB, hkl, ints, List.map_nil]
    try rfl
  · rintro ⟨i, seen, o⟩ ⟨hi, hC⟩
    simp only at hi hC ⊢
    have hsl := hC.len
    have hol := hC.out_le
    have hsc := hcnt seen hsl
    by_cases hlt : i < l.length
    · have d1 : decide ((i : Int) < (l.length : Int)) = true := by simpa using hlt
      have hwi : IntKind.i64.wrap ((i : Int) + 1) = ((i + 1 : Nat) : Int) := i64_in (by omega) (by omega)
      have hgw := ints_get hlt
      have hskip := fun hc => hC.base_skip hc
      have hadd := fun x => hC.base_add hlt (x := x)
      generalize l.getD i 0 = z at *
      by_cases hz0 : z < 0
      · have e1 : decide (z ≥ 0) = false := by simpa using hz0
        (repeat (first | refine awp_seq ?_ | refine awp_block ?_ | ((first | refine awp_skip ?_ | refine awp_exit ?_ | refine awp_reg ttok ?_ | (refine awp_draw ttok ?dr_calm ?_; (case dr_calm => decide +kernel)) | refine awp_condM ?_); simp (maxSteps := 4000000) only [↓reduceIte, Nat.reduceLT, Nat.reduceEqDiff, reduceCtorEq, Nat.reduceAdd, Nat.reduceMul, Int.reduceLE, Int.reduceLT, Int.reduceToNat, Nat.reduceLeDiff, Nat.reduceSub, Int.reduceEq, Nat.reduceBEq, List.replicate, List.set, evB, tyA, d1, hgw, e1, hwi]; (repeat (with_reducible refine And.intro ?_ ?_; exact sdX)); (with_reducible first | refine awp_id ?_ | refine id_call ?_ | refine id_and ?_ | refine id_ex ?_ | refine id_all ?_ | refine id_nat ?_ | refine id_le ?_))))
        refine ⟨(i + 1, seen, o), ⟨by simp only; omega, hskip fun x q => by omega⟩, by simp only; omega, mkS_le rfl ?_ ?_⟩
        · exact evX
        · exact evX
      · have e1 : decide (z ≥ 0) = true := by simpa using hz0
        obtain ⟨x, rfl⟩ := Int.eq_ofNat_of_zero_le (show 0 ≤ z by omega)
        by_cases hxk : x < k
        · have e2 : decide ((x : Int) < (k : Int)) = true := by simpa using hxk
          have hgs := bos_get (l := seen) (i := x) (by omega)
          cases hsx : seen.getD x false
          · rw [hsx] at hgs
            have hot : List.take o.length o = o := List.take_of_length_le (Nat.le_refl _)
            have hr2 : ∀ z : Int, (∀ row ∈ [[D.v (Value.int IntKind.i64 z)]], row.length = 1) = True := fun z => by simp
            have hse : (bos seen).set x [D.v (Value.bool true)] = bos (seen.set x true) := by simp [bos]
            have hl2 : (seen.set x true).length = k := by simp; omega
            have hC2 := hadd x rfl (by omega) hsx
            (repeat (first | refine awp_seq ?_ | refine awp_block ?_ | ((first | refine awp_skip ?_ | refine awp_exit ?_ | refine awp_reg ttok ?_ | (refine awp_draw ttok ?dr_calm ?_; (case dr_calm => decide +kernel)) | refine awp_condM ?_); simp (maxSteps := 4000000) only [↓reduceIte, Nat.reduceLT, Nat.reduceEqDiff, reduceCtorEq, Nat.reduceAdd, Nat.reduceMul, Int.reduceLE, Int.reduceLT, Int.reduceToNat, Nat.reduceLeDiff, Nat.reduceSub, Int.reduceEq, Nat.reduceBEq, List.replicate, List.set, evB, tyA, d1, hgw, e1, bos_len, hsl, hkl, e2, hgs, hwi, hse, ints_len, ints_take, hot, ints_one, ints_app, hr2]; (repeat (with_reducible refine And.intro ?_ ?_; exact sdX)); (with_reducible first | refine awp_id ?_ | refine id_call ?_ | refine id_and ?_ | refine id_ex ?_ | refine id_all ?_ | refine id_nat ?_ | refine id_le ?_))))
            refine ⟨(i + 1, seen.set x true, o ++ [(x : Int)]), ⟨by simp only; omega, hC2⟩, by simp only; omega, mkS_le rfl ?_ ?_⟩
            · simp (maxSteps := 4000000) only [↓reduceIte, Nat.reduceLT, Nat.reduceEqDiff, reduceCtorEq, Nat.reduceAdd, Nat.reduceMul, Int.reduceLE, Int.reduceLT, Int.reduceToNat, Nat.reduceLeDiff, Nat.reduceSub, Int.reduceEq, Nat.reduceBEq, List.replicate, List.set, evB, List.length_append]
            · simp (maxSteps := 4000000) only [↓reduceIte, Nat.reduceLT, Nat.reduceEqDiff, reduceCtorEq, Nat.reduceAdd, Nat.reduceMul, Int.reduceLE, Int.reduceLT, Int.reduceToNat, Nat.reduceLeDiff, Nat.reduceSub, Int.reduceEq, Nat.reduceBEq, List.replicate, List.set, evB, hse, ints_one, ints_app, ints_take, hot]
          · rw [hsx] at hgs
            (repeat (first | refine awp_seq ?_ | refine awp_block ?_ | ((first | refine awp_skip ?_ | refine awp_exit ?_ | refine awp_reg ttok ?_ | (refine awp_draw ttok ?dr_calm ?_; (case dr_calm => decide +kernel)) | refine awp_condM ?_); simp (maxSteps := 4000000) only [↓reduceIte, Nat.reduceLT, Nat.reduceEqDiff, reduceCtorEq, Nat.reduceAdd, Nat.reduceMul, Int.reduceLE, Int.reduceLT, Int.reduceToNat, Nat.reduceLeDiff, Nat.reduceSub, Int.reduceEq, Nat.reduceBEq, List.replicate, List.set, evB, tyA, d1, hgw, e1, bos_len, hsl, hkl, e2, hgs, hwi]; (repeat (with_reducible refine And.intro ?_ ?_; exact sdX)); (with_reducible first | refine awp_id ?_ | refine id_call ?_ | refine id_and ?_ | refine id_ex ?_ | refine id_all ?_ | refine id_nat ?_ | refine id_le ?_))))
            refine ⟨(i + 1, seen, o), ⟨by simp only; omega, hskip fun y q _ => by rw [← Int.ofNat_inj.1 q]; exact hsx⟩, by simp only; omega, mkS_le rfl ?_ ?_⟩
            · exact evX
            · exact evX
        · have e2 : decide ((x : Int) < (k : Int)) = false := by simpa using hxk
          (repeat (first | refine awp_seq ?_ | refine awp_block ?_ | ((first | refine awp_skip ?_ | refine awp_exit ?_ | refine awp_reg ttok ?_ | (refine awp_draw ttok ?dr_calm ?_; (case dr_calm => decide +kernel)) | refine awp_condM ?_); simp (maxSteps := 4000000) only [↓reduceIte, Nat.reduceLT, Nat.reduceEqDiff, reduceCtorEq, Nat.reduceAdd, Nat.reduceMul, Int.reduceLE, Int.reduceLT, Int.reduceToNat, Nat.reduceLeDiff, Nat.reduceSub, Int.reduceEq, Nat.reduceBEq, List.replicate, List.set, evB, tyA, d1, hgw, e1, bos_len, hsl, hkl, e2, hwi]; (repeat (with_reducible refine And.intro ?_ ?_; exact sdX)); (with_reducible first | refine awp_id ?_ | refine id_call ?_ | refine id_and ?_ | refine id_ex ?_ | refine id_all ?_ | refine id_nat ?_ | refine id_le ?_))))
          refine ⟨(i + 1, seen, o), ⟨by simp only; omega, hskip fun y q q2 => by have := Int.ofNat_inj.1 q; omega⟩, by simp only; omega, mkS_le rfl ?_ ?_⟩
          · exact evX
          · exact evX
    · have d1 : decide ((i : Int) < (l.length : Int)) = false := by simpa using hlt
      obtain rfl : i = l.length := by omega
      (repeat (first | refine awp_seq ?_ | refine awp_block ?_ | ((first | refine awp_skip ?_ | refine awp_exit ?_ | refine awp_reg ttok ?_ | (refine awp_draw ttok ?dr_calm ?_; (case dr_calm => decide +kernel)) | refine awp_condM ?_); simp (maxSteps := 4000000) only [↓reduceIte, Nat.reduceLT, Nat.reduceEqDiff, reduceCtorEq, Nat.reduceAdd, Nat.reduceMul, Int.reduceLE, Int.reduceLT, Int.reduceToNat, Nat.reduceLeDiff, Nat.reduceSub, Int.reduceEq, Nat.reduceBEq, List.replicate, List.set, evB, tyA, d1]; (repeat (with_reducible refine And.intro ?_ ?_; exact sdX)); (with_reducible first | refine awp_id ?_ | refine id_call ?_ | refine id_and ?_ | refine id_ex ?_ | refine id_all ?_ | refine id_nat ?_ | refine id_le ?_))))
      have hot : List.take o.length o = o := List.take_of_length_le (Nat.le_refl _)
      have hcl := c_CloneI false o (by omega)
      rw [hot]
      refine callVC_own fnok30 hcl rfl rfl (by simp only [List.all_cons, noI_intsE, List.all_nil, Bool.and_self]) ?_
      simp (maxSteps := 4000000) only [↓reduceIte, Nat.reduceLT, Nat.reduceEqDiff, reduceCtorEq, Nat.reduceAdd, Nat.reduceMul, Int.reduceLE, Int.reduceLT, Int.reduceToNat, Nat.reduceLeDiff, Nat.reduceSub, Int.reduceEq, Nat.reduceBEq, List.replicate, List.set, evB, tyA]
      (repeat (with_reducible refine And.intro ?_ ?_; exact sdX))
      (repeat (first | refine awp_seq ?_ | refine awp_block ?_ | ((first | refine awp_skip ?_ | refine awp_exit ?_ | refine awp_reg ttok ?_ | (refine awp_draw ttok ?dr_calm ?_; (case dr_calm => decide +kernel)) | refine awp_condM ?_); simp (maxSteps := 4000000) only [↓reduceIte, Nat.reduceLT, Nat.reduceEqDiff, reduceCtorEq, Nat.reduceAdd, Nat.reduceMul, Int.reduceLE, Int.reduceLT, Int.reduceToNat, Nat.reduceLeDiff, Nat.reduceSub, Int.reduceEq, Nat.reduceBEq, List.replicate, List.set, evB, tyA]; (repeat (with_reducible refine And.intro ?_ ?_; exact sdX)); (with_reducible first | refine awp_id ?_ | refine id_call ?_ | refine id_and ?_ | refine id_ex ?_ | refine id_all ?_ | refine id_nat ?_ | refine id_le ?_))))
      refine awp_loop (X := List Bool × List Int × List Int × List Int) (fun x => mkS 113 [(2, .ptr 1000 0 0), (5, .own 2003 0 k), (6, .own 90000 0 x.2.1.length), (9, .own 111001 0 x.2.2.2.length)]
          [(1000, { sz := 4, rows := [[i64 L, i64 st, .sl false (bos F), .sl false (mmv M)]], flat := false }), (2003, { sz := 1, rows := bos x.1 }), (90000, { sz := 1, rows := ints (x.2.1 ++ x.2.2.1) }), (111001, { sz := 1, rows := ints x.2.2.2 })]) (fun x => CI M l l.length none x.1 x.2.1 x.2.2.2) (fun x => 2 * (k - x.2.2.2.length) + x.2.1.length) (seen, o, [], o) hC (mkS_le rfl ?_ ?_) ?_
      · simp (maxSteps := 4000000) only [↓reduceIte, Nat.reduceLT, Nat.reduceEqDiff, reduceCtorEq, Nat.reduceAdd, Nat.reduceMul, Int.reduceLE, Int.reduceLT, Int.reduceToNat, Nat.reduceLeDiff, Nat.reduceSub, Int.reduceEq, Nat.reduceBEq, List.replicate, List.set, evB]
        try rfl
      · simp (maxSteps := 4000000) only [↓reduceIte, Nat.reduceLT, Nat.reduceEqDiff, reduceCtorEq, Nat.reduceAdd, Nat.reduceMul, Int.reduceLE, Int.reduceLT, Int.reduceToNat, Nat.reduceLeDiff, Nat.reduceSub, Int.reduceEq, Nat.reduceBEq, List.replicate, List.set, evB, List.append_nil]
        try rfl
      · rintro ⟨sn, td, rs, ot⟩ hC
        simp only at hC ⊢
        have hsl := hC.len
        have hol := hC.out_le
        have hsc := hcnt sn hsl
        by_cases hne : td = []
        · subst hne
          have e0 : decide ((((0 : Nat)) : Int) > 0) = false := by simp
          (repeat (first | refine awp_seq ?_ | refine awp_block ?_ | ((first | refine awp_skip ?_ | refine awp_exit ?_ | refine awp_reg ttok ?_ | (refine awp_draw ttok ?dr_calm ?_; (case dr_calm => decide +kernel)) | refine awp_condM ?_); simp (maxSteps := 4000000) only [↓reduceIte, Nat.reduceLT, Nat.reduceEqDiff, reduceCtorEq, Nat.reduceAdd, Nat.reduceMul, Int.reduceLE, Int.reduceLT, Int.reduceToNat, Nat.reduceLeDiff, Nat.reduceSub, Int.reduceEq, Nat.reduceBEq, List.replicate, List.set, evB, tyA, List.length_nil, e0]; (repeat (with_reducible refine And.intro ?_ ?_; exact sdX)); (with_reducible first | refine awp_id ?_ | refine id_call ?_ | refine id_and ?_ | refine id_ex ?_ | refine id_all ?_ | refine id_nat ?_ | refine id_le ?_))))
          have hres := hC.end_ h
          have hsl := sortI_len ot
          have hcS := c_SortI ot (by omega)
          refine callVC_M [111001] fnok28 hcS (by simp (maxSteps := 4000000) only [↓reduceIte, Nat.reduceLT, Nat.reduceEqDiff, reduceCtorEq, Nat.reduceAdd, Nat.reduceMul, Int.reduceLE, Int.reduceLT, Int.reduceToNat, Nat.reduceLeDiff, Nat.reduceSub, Int.reduceEq, Nat.reduceBEq, List.replicate, List.set, evB]; rfl) evX ?_
          simp (maxSteps := 4000000) only [↓reduceIte, Nat.reduceLT, Nat.reduceEqDiff, reduceCtorEq, Nat.reduceAdd, Nat.reduceMul, Int.reduceLE, Int.reduceLT, Int.reduceToNat, Nat.reduceLeDiff, Nat.reduceSub, Int.reduceEq, Nat.reduceBEq, List.replicate, List.set, evB, tyA, ints_len]
          (repeat (with_reducible refine And.intro ?_ ?_; exact sdX))
          (repeat (first | refine awp_seq ?_ | refine awp_block ?_ | ((first | refine awp_skip ?_ | refine awp_exit ?_ | refine awp_reg ttok ?_ | (refine awp_draw ttok ?dr_calm ?_; (case dr_calm => decide +kernel)) | refine awp_condM ?_); simp (maxSteps := 4000000) only [↓reduceIte, Nat.reduceLT, Nat.reduceEqDiff, reduceCtorEq, Nat.reduceAdd, Nat.reduceMul, Int.reduceLE, Int.reduceLT, Int.reduceToNat, Nat.reduceLeDiff, Nat.reduceSub, Int.reduceEq, Nat.reduceBEq, List.replicate, List.set, evB, tyA]; (repeat (with_reducible refine And.intro ?_ ?_; exact sdX)); (with_reducible first | refine awp_id ?_ | refine id_call ?_ | refine id_and ?_ | refine id_ex ?_ | refine id_all ?_ | refine id_nat ?_ | refine id_le ?_))))
          rw [← hsl, hres]
          refine awp_pure 4 (d := .own 111001 0 (cloL M l).length) evX (by simp (maxSteps := 4000000) only [↓reduceIte, Nat.reduceLT, Nat.reduceEqDiff, reduceCtorEq, Nat.reduceAdd, Nat.reduceMul, Int.reduceLE, Int.reduceLT, Int.reduceToNat, Nat.reduceLeDiff, Nat.reduceSub, Int.reduceEq, Nat.reduceBEq, List.replicate, List.set, evB]; rfl) (by simp (maxSteps := 4000000) only [↓reduceIte, Nat.reduceLT, Nat.reduceEqDiff, reduceCtorEq, Nat.reduceAdd, Nat.reduceMul, Int.reduceLE, Int.reduceLT, Int.reduceToNat, Nat.reduceLeDiff, Nat.reduceSub, Int.reduceEq, Nat.reduceBEq, List.replicate, List.set, evB, ints_len]) ?_
          have hct : List.take (cloL M l).length (cloL M l) = cloL M l := List.take_of_length_le (Nat.le_refl _)
          exact awp_ret (ends_plain (.inr rfl) rfl (by simp (maxSteps := 4000000) only [↓reduceIte, Nat.reduceLT, Nat.reduceEqDiff, reduceCtorEq, Nat.reduceAdd, Nat.reduceMul, Int.reduceLE, Int.reduceLT, Int.reduceToNat, Nat.reduceLeDiff, Nat.reduceSub, Int.reduceEq, Nat.reduceBEq, List.replicate, List.set, evB, ints_take, hct]))
        · obtain ⟨td2, z, rfl⟩ : ∃ a b, td = a ++ [b] := ⟨_, _, (List.dropLast_concat_getLast hne).symm⟩
          have hzo := hC.tod z (by simp)
          obtain ⟨s, rfl, hss⟩ := (hC.mem z).1 hzo
          have hse := hC.er s hss
          have hsM := hse.lt
          have hC2 := hC.pop
          have htd := hC.todo_le
          have htl : (td2 ++ [(s : Int)]).length = td2.length + 1 := by simp
          rw [htl] at htd
          rw [htl]
          have e0 : decide (((td2.length + 1 : Nat) : Int) > 0) = true := by rw [decide_eq_true_eq]; omega
          have w1 : IntKind.i64.wrap (((td2.length + 1 : Nat) : Int) - 1) = (td2.length : Int) := by rw [i64_in (by omega) (by omega)]; omega
          have hgt : (ints (td2 ++ [(s : Int)] ++ rs)).getD td2.length [] = [i64 s] := by
            rw [ints_get (by simp)]
            simp [List.getD]
          have hgm := mmv_get (M := M) (i := s) hsM
          have hrl := hR s
          have hrb := h.get s
          (repeat (first | refine awp_seq ?_ | refine awp_block ?_ | ((first | refine awp_skip ?_ | refine awp_exit ?_ | refine awp_reg ttok ?_ | (refine awp_draw ttok ?dr_calm ?_; (case dr_calm => decide +kernel)) | refine awp_condM ?_); simp (maxSteps := 4000000) only [↓reduceIte, Nat.reduceLT, Nat.reduceEqDiff, reduceCtorEq, Nat.reduceAdd, Nat.reduceMul, Int.reduceLE, Int.reduceLT, Int.reduceToNat, Nat.reduceLeDiff, Nat.reduceSub, Int.reduceEq, Nat.reduceBEq, List.replicate, List.set, evB, tyA, e0, w1, hgt, ints_len, List.length_append, hgm, mvs_len, mmv_len]; (repeat (with_reducible refine And.intro ?_ ?_; exact sdX)); (with_reducible first | refine awp_id ?_ | refine id_call ?_ | refine id_and ?_ | refine id_ex ?_ | refine id_all ?_ | refine id_nat ?_ | refine id_le ?_))))
          obtain ⟨r, hr⟩ : ∃ r, r = M.getD s [] := ⟨_, rfl⟩
          rw [← hr] at hgm hrl hrb ⊢
          refine awp_loop (X := Nat × List Bool × List Int × List Int × List Int) (fun x => mkS 113 [(2, .ptr 1000 0 0), (5, .own 2003 0 k), (6, .own 90000 0 x.2.2.1.length), (9, .own 111001 0 x.2.2.2.2.length), (66, .sl false (mvs r)), (67, i64 r.length), (68, i64 x.1)]
            [(1000, { sz := 4, rows := [[i64 L, i64 st, .sl false (bos F), .sl false (mmv M)]], flat := false }), (2003, { sz := 1, rows := bos x.2.1 }), (90000, { sz := 1, rows := ints (x.2.2.1 ++ x.2.2.2.1) }), (111001, { sz := 1, rows := ints x.2.2.2.2 })]) (fun x => x.1 ≤ r.length ∧ CI M l l.length (some (s, x.1)) x.2.1 x.2.2.1 x.2.2.2.2 ∧ 2 * (k - x.2.2.2.2.length) + x.2.2.1.length ≤ 2 * (k - ot.length) + td2.length) (fun x => r.length - x.1) (0, sn, td2, [(s : Int)] ++ rs, ot) ⟨Nat.zero_le _, hC2, Nat.le_refl _⟩ (mkS_le rfl ?_ ?_) ?_
          · simp (maxSteps := 4000000) only [↓reduceIte, Nat.reduceLT, Nat.reduceEqDiff, reduceCtorEq, Nat.reduceAdd, Nat.reduceMul, Int.reduceLE, Int.reduceLT, Int.reduceToNat, Nat.reduceLeDiff, Nat.reduceSub, Int.reduceEq, Nat.reduceBEq, List.replicate, List.set, evB]
            try rfl
          · simp (maxSteps := 4000000) only [↓reduceIte, Nat.reduceLT, Nat.reduceEqDiff, reduceCtorEq, Nat.reduceAdd, Nat.reduceMul, Int.reduceLE, Int.reduceLT, Int.reduceToNat, Nat.reduceLeDiff, Nat.reduceSub, Int.reduceEq, Nat.reduceBEq, List.replicate, List.set, evB, List.append_assoc]
            try rfl
          · rintro ⟨j, sn, td, rs, ot2⟩ ⟨hj, hC, hms⟩
            simp only at hj hC hms ⊢
            have hsl := hC.len
            have hol := hC.out_le
            have htd := hC.todo_le
            have hsc := hcnt sn hsl
            by_cases hjlt : j < r.length
            · have d2 : decide ((j : Int) < (r.length : Int)) = true := by simpa using hjlt
              have hwj : IntKind.i64.wrap ((j : Int) + 1) = ((j + 1 : Nat) : Int) := i64_in (by omega) (by omega)
              have hgr := mvs_get hjlt
              have hskip := fun hc => hC.skip hc
              have hadd := fun t => hC.add2 (t := t) hse (by rw [← hr]; exact hjlt)
              have hmb := hrb (r.getD j (0, 0)) (by
                simp [List.getD, List.getElem?_eq_getElem hjlt])
              rw [← hr] at hskip hadd
              generalize r.getD j (0, 0) = m at *
              obtain ⟨m1, m2⟩ := m
              simp only at hgr hmb
              by_cases h1 : m1 = -1
              · subst h1
                have e1 : ((-1 : Int) == -1) = true := rfl
                obtain ⟨t, rfl⟩ := Int.eq_ofNat_of_zero_le hmb.2.2.1
                have e2 : decide ((t : Int) ≥ 0) = true := by simp
                have e3 : decide ((t : Int) < (k : Int)) = true := by simp; omega
                have hgs := bos_get (l := sn) (i := t) (by omega)
                cases hst : sn.getD t false
                · rw [hst] at hgs
                  have hC3 := hadd t rfl (by omega) hst
                  have hot := List.take_of_length_le (Nat.le_refl ot2.length)
                  have htt : List.take td.length (td ++ rs) = td := by simp
                  have hr2 : ∀ z : Int, (∀ row ∈ [[D.v (Value.int IntKind.i64 z)]], row.length = 1) = True := fun z => by simp
                  have hse2 : (bos sn).set t [D.v (Value.bool true)] = bos (sn.set t true) := by simp [bos]
                  have hol2 := hC3.out_le
                  have hsc2 := hcnt _ hC3.len
                  rw [List.length_append, List.length_singleton] at hol2
                  (repeat (first | refine awp_seq ?_ | refine awp_block ?_ | ((first | refine awp_skip ?_ | refine awp_exit ?_ | refine awp_reg ttok ?_ | (refine awp_draw ttok ?dr_calm ?_; (case dr_calm => decide +kernel)) | refine awp_condM ?_); simp (maxSteps := 4000000) only [↓reduceIte, Nat.reduceLT, Nat.reduceEqDiff, reduceCtorEq, Nat.reduceAdd, Nat.reduceMul, Int.reduceLE, Int.reduceLT, Int.reduceToNat, Nat.reduceLeDiff, Nat.reduceSub, Int.reduceEq, Nat.reduceBEq, List.replicate, List.set, evB, tyA, d2, hgr, mvs_len, e1, e2, e3, bos_len, hsl, hkl, hgs, hse2]; (repeat (with_reducible refine And.intro ?_ ?_; exact sdX)); (with_reducible first | refine awp_id ?_ | refine id_call ?_ | refine id_and ?_ | refine id_ex ?_ | refine id_all ?_ | refine id_nat ?_ | refine id_le ?_))))
                  refine awp_drawS ttok (mkS 113 [(2, .ptr 1000 0 0), (5, .own 2003 0 k), (6, .own 90000 0 (td.length + 1)), (9, .own 111001 0 (ot2.length + 1)), (66, .sl false (mvs r)), (67, i64 r.length), (68, i64 j)]
                    [(1000, { sz := 4, rows := [[i64 L, i64 st, .sl false (bos F), .sl false (mmv M)]], flat := false }), (2003, { sz := 1, rows := bos (sn.set t true) }), (90000, { sz := 1, rows := ints (td ++ [(t : Int)]) }), (111001, { sz := 1, rows := ints (ot2 ++ [(t : Int)]) })]) (.nd 3 8 .lf (.nd 4 8 .lf .lf)) [((0, none) :: (1, none) :: (2, none) :: (5, none) :: (6, none) :: (7, none) :: (8, some [0, 1, 2, 5]) :: (3, some [0, 5]) :: (4, some [5]) :: (9, some []) :: (10, none) :: (11, none) :: []), ((0, none) :: (1, none) :: (2, none) :: (5, none) :: (6, none) :: (7, none) :: (3, some [0, 5, 6, 7]) :: (8, some [0, 5]) :: (4, some [5]) :: (9, some []) :: (10, none) :: (11, none) :: []), ((0, none) :: (1, none) :: (2, none) :: (5, none) :: (6, none) :: (7, none) :: (3, some [0, 5, 6, 7]) :: (4, some [5, 6, 7]) :: (8, some [5]) :: (9, some []) :: (10, none) :: (11, none) :: [])] [0, 1, 2, 5, 6, 7, 3, 4, 8, 9, 10, 11] [0, 1, 2, 3, 4, 5, 6, 7, 8, 9, 10, 11] [0, 1, 2, 3, 4, 5, 6, 7, 8, 9, 10, 11] (by decide +kernel) ?_ (fun O hO => ?_)
                  rotate_left
                  · simp only [OpsAre, Nat.reduceAdd, and_true] at hO
                    simp only [aopsS_cons, aopsS_nil, and_true]
                    repeat' apply And.intro
                    all_goals
                      simp (maxSteps := 4000000) only [↓reduceIte, Nat.reduceLT, Nat.reduceEqDiff, reduceCtorEq, Nat.reduceAdd, Nat.reduceMul, Int.reduceLE, Int.reduceLT, Int.reduceToNat, Nat.reduceLeDiff, Nat.reduceSub, Int.reduceEq, Nat.reduceBEq, List.replicate, List.set, evB, tyA, hO, ints_len, List.length_append, ints_take, htt, hot, ints_one, ints_app, hr2]; (repeat (with_reducible refine And.intro ?_ ?_; exact sdX))
                      refine mkS_le rfl ?_ ?_
                      · exact evX
                      · simp (maxSteps := 4000000) only [↓reduceIte, Nat.reduceLT, Nat.reduceEqDiff, reduceCtorEq, Nat.reduceAdd, Nat.reduceMul, Int.reduceLE, Int.reduceLT, Int.reduceToNat, Nat.reduceLeDiff, Nat.reduceSub, Int.reduceEq, Nat.reduceBEq, List.replicate, List.set, evB, hse2, ints_take, htt, hot, ints_one, ints_app]
                  · (repeat (first | refine awp_seq ?_ | refine awp_block ?_ | ((first | refine awp_skip ?_ | refine awp_exit ?_ | refine awp_reg ttok ?_ | (refine awp_draw ttok ?dr_calm ?_; (case dr_calm => decide +kernel)) | refine awp_condM ?_); simp (maxSteps := 4000000) only [↓reduceIte, Nat.reduceLT, Nat.reduceEqDiff, reduceCtorEq, Nat.reduceAdd, Nat.reduceMul, Int.reduceLE, Int.reduceLT, Int.reduceToNat, Nat.reduceLeDiff, Nat.reduceSub, Int.reduceEq, Nat.reduceBEq, List.replicate, List.set, evB, tyA, hwj]; (repeat (with_reducible refine And.intro ?_ ?_; exact sdX)); (with_reducible first | refine awp_id ?_ | refine id_call ?_ | refine id_and ?_ | refine id_ex ?_ | refine id_all ?_ | refine id_nat ?_ | refine id_le ?_))))
                    refine ⟨(j + 1, sn.set t true, td ++ [(t : Int)], [], ot2 ++ [(t : Int)]), ⟨by simp only; omega, hC3, by simp only [List.length_append, List.length_singleton]; omega⟩, by simp only; omega, mkS_le rfl ?_ ?_⟩
                    · simp (maxSteps := 4000000) only [↓reduceIte, Nat.reduceLT, Nat.reduceEqDiff, reduceCtorEq, Nat.reduceAdd, Nat.reduceMul, Int.reduceLE, Int.reduceLT, Int.reduceToNat, Nat.reduceLeDiff, Nat.reduceSub, Int.reduceEq, Nat.reduceBEq, List.replicate, List.set, evB, List.length_append]
                    · simp (maxSteps := 4000000) only [↓reduceIte, Nat.reduceLT, Nat.reduceEqDiff, reduceCtorEq, Nat.reduceAdd, Nat.reduceMul, Int.reduceLE, Int.reduceLT, Int.reduceToNat, Nat.reduceLeDiff, Nat.reduceSub, Int.reduceEq, Nat.reduceBEq, List.replicate, List.set, evB, List.append_nil]
                · rw [hst] at hgs
                  (repeat (first | refine awp_seq ?_ | refine awp_block ?_ | ((first | refine awp_skip ?_ | refine awp_exit ?_ | refine awp_reg ttok ?_ | (refine awp_draw ttok ?dr_calm ?_; (case dr_calm => decide +kernel)) | refine awp_condM ?_); simp (maxSteps := 4000000) only [↓reduceIte, Nat.reduceLT, Nat.reduceEqDiff, reduceCtorEq, Nat.reduceAdd, Nat.reduceMul, Int.reduceLE, Int.reduceLT, Int.reduceToNat, Nat.reduceLeDiff, Nat.reduceSub, Int.reduceEq, Nat.reduceBEq, List.replicate, List.set, evB, tyA, d2, hgr, mvs_len, e1, e2, e3, bos_len, hsl, hkl, hgs, hwj]; (repeat (with_reducible refine And.intro ?_ ?_; exact sdX)); (with_reducible first | refine awp_id ?_ | refine id_call ?_ | refine id_and ?_ | refine id_ex ?_ | refine id_all ?_ | refine id_nat ?_ | refine id_le ?_))))
                  refine ⟨(j + 1, sn, td, rs, ot2), ⟨by simp only; omega, hskip fun t2 q _ => by have := Int.ofNat_inj.1 (Prod.mk.inj q).2; rw [← this]; exact hst, hms⟩, by simp only; omega, mkS_le rfl ?_ ?_⟩
                  · exact evX
                  · exact evX
              · have e1 : (m1 == -1) = false := by simpa using h1
                (repeat (first | refine awp_seq ?_ | refine awp_block ?_ | ((first | refine awp_skip ?_ | refine awp_exit ?_ | refine awp_reg ttok ?_ | (refine awp_draw ttok ?dr_calm ?_; (case dr_calm => decide +kernel)) | refine awp_condM ?_); simp (maxSteps := 4000000) only [↓reduceIte, Nat.reduceLT, Nat.reduceEqDiff, reduceCtorEq, Nat.reduceAdd, Nat.reduceMul, Int.reduceLE, Int.reduceLT, Int.reduceToNat, Nat.reduceLeDiff, Nat.reduceSub, Int.reduceEq, Nat.reduceBEq, List.replicate, List.set, evB, tyA, d2, hgr, mvs_len, e1, hwj]; (repeat (with_reducible refine And.intro ?_ ?_; exact sdX)); (with_reducible first | refine awp_id ?_ | refine id_call ?_ | refine id_and ?_ | refine id_ex ?_ | refine id_all ?_ | refine id_nat ?_ | refine id_le ?_))))
                refine ⟨(j + 1, sn, td, rs, ot2), ⟨by simp only; omega, hskip fun t q _ => absurd (Prod.mk.inj q).1 h1, hms⟩, by simp only; omega, mkS_le rfl ?_ ?_⟩
                · exact evX
                · exact evX
            · have d2 : decide ((j : Int) < (r.length : Int)) = false := by simpa using hjlt
              obtain rfl : j = r.length := by omega
              rw [hr] at hC
              (repeat (first | refine awp_seq ?_ | refine awp_block ?_ | ((first | refine awp_skip ?_ | refine awp_exit ?_ | refine awp_reg ttok ?_ | (refine awp_draw ttok ?dr_calm ?_; (case dr_calm => decide +kernel)) | refine awp_condM ?_); simp (maxSteps := 4000000) only [↓reduceIte, Nat.reduceLT, Nat.reduceEqDiff, reduceCtorEq, Nat.reduceAdd, Nat.reduceMul, Int.reduceLE, Int.reduceLT, Int.reduceToNat, Nat.reduceLeDiff, Nat.reduceSub, Int.reduceEq, Nat.reduceBEq, List.replicate, List.set, evB, tyA, d2]; (repeat (with_reducible refine And.intro ?_ ?_; exact sdX)); (with_reducible first | refine awp_id ?_ | refine id_call ?_ | refine id_and ?_ | refine id_ex ?_ | refine id_all ?_ | refine id_nat ?_ | refine id_le ?_))))
              refine ⟨(sn, td, rs, ot2), hC.done, by simp only; omega, mkS_le rfl ?_ ?_⟩
              · exact evX
              · exact evX
theorem takS_snoc (M : Mv) (a : Int) : ∀ (u : List Int) (l : List Int), takS M l (u ++ [a]) = cloL M (stepL M (takS M l u) a)
  | [], l => rfl
  | b :: u, l => takS_snoc M a u _
theorem cloL_len (M : Mv) (l : List Int) : (cloL M l).length ≤ M.length := onL_len _ _
theorem takS_len (M : Mv) {l : List Int} (hl : l.length ≤ M.length) : ∀ u : List Int, (takS M l u).length ≤ M.length := fun u => by
  induction u generalizing l with
  | nil => exact hl
  | cons a u ih => exact ih (cloL_len M _)
def finP1 (F : List Bool) (s : Int) : Bool := decide (0 ≤ s) && decide (s < (F.length : Int)) && F.getD s.toNat false
theorem c_EFinal1 (L st : Nat) (F : List Bool) (M : Mv) (x : Int) : Contract Try.prog 32 [i64 x, .ref [i64 L, i64 st, .sl false (bos F), .sl false (mmv M)] 0] (bo (finP1 F x)) [] := by
  refine contract_of_awp (rs := [3]) Try.func32 rfl Try.ntmps32 (by simp) rfl fun E => ?_
  unfold finP1
  by_cases h0 : x < 0
  · have e1 : decide (x ≥ 0) = false := by simpa using h0
    have e1' : decide (0 ≤ x) = false := by simpa using h0
    (repeat (first | refine awp_seq ?_ | refine awp_block ?_ | ((first | refine awp_skip ?_ | refine awp_exit ?_ | refine awp_reg ttok ?_ | (refine awp_draw ttok ?dr_calm ?_; (case dr_calm => decide +kernel)) | refine awp_condM ?_); simp (maxSteps := 4000000) only [↓reduceIte, Nat.reduceLT, Nat.reduceEqDiff, reduceCtorEq, Nat.reduceAdd, Nat.reduceMul, Int.reduceLE, Int.reduceLT, Int.reduceToNat, Nat.reduceLeDiff, Nat.reduceSub, Int.reduceEq, Nat.reduceBEq, List.replicate, List.set, evB, tyA, e1]; (repeat (with_reducible refine And.intro ?_ ?_; exact sdX)); (with_reducible first | refine awp_id ?_ | refine id_call ?_ | refine id_and ?_ | refine id_ex ?_ | refine id_all ?_ | refine id_nat ?_ | refine id_le ?_))))
    exact awp_ret (ends_plain (.inr rfl) rfl (by simp (maxSteps := 4000000) only [↓reduceIte, Nat.reduceLT, Nat.reduceEqDiff, reduceCtorEq, Nat.reduceAdd, Nat.reduceMul, Int.reduceLE, Int.reduceLT, Int.reduceToNat, Nat.reduceLeDiff, Nat.reduceSub, Int.reduceEq, Nat.reduceBEq, List.replicate, List.set, evB, e1', Bool.false_and]))
  · obtain ⟨s, rfl⟩ := Int.eq_ofNat_of_zero_le (show 0 ≤ x by omega)
    have e1 : decide ((s : Int) ≥ 0) = true := by simp
    have e1' : decide (0 ≤ (s : Int)) = true := by simp
    by_cases h1 : s < F.length
    · have e2 : decide ((s : Int) < (F.length : Int)) = true := by simpa using h1
      have hg := bos_get h1
      (repeat (first | refine awp_seq ?_ | refine awp_block ?_ | ((first | refine awp_skip ?_ | refine awp_exit ?_ | refine awp_reg ttok ?_ | (refine awp_draw ttok ?dr_calm ?_; (case dr_calm => decide +kernel)) | refine awp_condM ?_); simp (maxSteps := 4000000) only [↓reduceIte, Nat.reduceLT, Nat.reduceEqDiff, reduceCtorEq, Nat.reduceAdd, Nat.reduceMul, Int.reduceLE, Int.reduceLT, Int.reduceToNat, Nat.reduceLeDiff, Nat.reduceSub, Int.reduceEq, Nat.reduceBEq, List.replicate, List.set, evB, tyA, e1, bos_len, e2, hg]; (repeat (with_reducible refine And.intro ?_ ?_; exact sdX)); (with_reducible first | refine awp_id ?_ | refine id_call ?_ | refine id_and ?_ | refine id_ex ?_ | refine id_all ?_ | refine id_nat ?_ | refine id_le ?_))))
      exact awp_ret (ends_plain (.inr rfl) rfl (by simp (maxSteps := 4000000) only [↓reduceIte, Nat.reduceLT, Nat.reduceEqDiff, reduceCtorEq, Nat.reduceAdd, Nat.reduceMul, Int.reduceLE, Int.reduceLT, Int.reduceToNat, Nat.reduceLeDiff, Nat.reduceSub, Int.reduceEq, Nat.reduceBEq, List.replicate, List.set, evB, e1', e2, Bool.true_and, Int.toNat_natCast]))
    · have e2 : decide ((s : Int) < (F.length : Int)) = false := by simpa using h1
      (repeat (first | refine awp_seq ?_ | refine awp_block ?_ | ((first | refine awp_skip ?_ | refine awp_exit ?_ | refine awp_reg ttok ?_ | (refine awp_draw ttok ?dr_calm ?_; (case dr_calm => decide +kernel)) | refine awp_condM ?_); simp (maxSteps := 4000000) only [↓reduceIte, Nat.reduceLT, Nat.reduceEqDiff, reduceCtorEq, Nat.reduceAdd, Nat.reduceMul, Int.reduceLE, Int.reduceLT, Int.reduceToNat, Nat.reduceLeDiff, Nat.reduceSub, Int.reduceEq, Nat.reduceBEq, List.replicate, List.set, evB, tyA, e1, bos_len, e2]; (repeat (with_reducible refine And.intro ?_ ?_; exact sdX)); (with_reducible first | refine awp_id ?_ | refine id_call ?_ | refine id_and ?_ | refine id_ex ?_ | refine id_all ?_ | refine id_nat ?_ | refine id_le ?_))))
      exact awp_ret (ends_plain (.inr rfl) rfl (by simp (maxSteps := 4000000) only [↓reduceIte, Nat.reduceLT, Nat.reduceEqDiff, reduceCtorEq, Nat.reduceAdd, Nat.reduceMul, Int.reduceLE, Int.reduceLT, Int.reduceToNat, Nat.reduceLeDiff, Nat.reduceSub, Int.reduceEq, Nat.reduceBEq, List.replicate, List.set, evB, e1', e2, Bool.true_and, Bool.false_and]))
theorem c_EFinal (L st : Nat) (F : List Bool) (M : Mv) (f : Bool) (l : List Int) (hl : l.length ≤ 100000) : Contract Try.prog 18 [nfaD L st F M, .sl f (ints l)] (bo (finL F l)) [] := by
  refine contract_of_awp (rs := [4]) Try.func18 rfl Try.ntmps18 (by simp) rfl fun E => ?_
  have hc := c_CtI 32 [i64 L, i64 st, .sl false (bos F), .sl false (mmv M)] fnok32 (finP1 F) f l hl fun x _ => c_EFinal1 L st F M x
  (repeat (first | refine awp_seq ?_ | refine awp_block ?_ | ((first | refine awp_skip ?_ | refine awp_exit ?_ | refine awp_reg ttok ?_ | (refine awp_draw ttok ?dr_calm ?_; (case dr_calm => decide +kernel)) | refine awp_condM ?_); simp (maxSteps := 4000000) only [↓reduceIte, Nat.reduceLT, Nat.reduceEqDiff, reduceCtorEq, Nat.reduceAdd, Nat.reduceMul, Int.reduceLE, Int.reduceLT, Int.reduceToNat, Nat.reduceLeDiff, Nat.reduceSub, Int.reduceEq, Nat.reduceBEq, List.replicate, List.set, evB, tyA, nfaD]; (repeat (with_reducible refine And.intro ?_ ?_; exact sdX)); (with_reducible first | refine awp_id ?_ | refine id_call ?_ | refine id_and ?_ | refine id_ex ?_ | refine id_all ?_ | refine id_nat ?_ | refine id_le ?_))))
  refine callVC_scal fnok31 hc rfl ?_
  simp (maxSteps := 4000000) only [↓reduceIte, Nat.reduceLT, Nat.reduceEqDiff, reduceCtorEq, Nat.reduceAdd, Nat.reduceMul, Int.reduceLE, Int.reduceLT, Int.reduceToNat, Nat.reduceLeDiff, Nat.reduceSub, Int.reduceEq, Nat.reduceBEq, List.replicate, List.set, evB, tyA]
  (repeat (with_reducible refine And.intro ?_ ?_; exact sdX))
  (repeat (first | refine awp_seq ?_ | refine awp_block ?_ | ((first | refine awp_skip ?_ | refine awp_exit ?_ | refine awp_reg ttok ?_ | (refine awp_draw ttok ?dr_calm ?_; (case dr_calm => decide +kernel)) | refine awp_condM ?_); simp (maxSteps := 4000000) only [↓reduceIte, Nat.reduceLT, Nat.reduceEqDiff, reduceCtorEq, Nat.reduceAdd, Nat.reduceMul, Int.reduceLE, Int.reduceLT, Int.reduceToNat, Nat.reduceLeDiff, Nat.reduceSub, Int.reduceEq, Nat.reduceBEq, List.replicate, List.set, evB, tyA]; (repeat (with_reducible refine And.intro ?_ ?_; exact sdX)); (with_reducible first | refine awp_id ?_ | refine id_call ?_ | refine id_and ?_ | refine id_ex ?_ | refine id_all ?_ | refine id_nat ?_ | refine id_le ?_))))
  exact awp_ret (ends_plain (.inr rfl) rfl (by simp (maxSteps := 4000000) only [↓reduceIte, Nat.reduceLT, Nat.reduceEqDiff, reduceCtorEq, Nat.reduceAdd, Nat.reduceMul, Int.reduceLE, Int.reduceLT, Int.reduceToNat, Nat.reduceLeDiff, Nat.reduceSub, Int.reduceEq, Nat.reduceBEq, List.replicate, List.set, evB]; rfl))
set_option maxRecDepth 20000 in
set_option maxHeartbeats 16000000 in
theorem c_ETakes {L k : Nat} {M : Mv} (h : MOk L k M) (hk : 1 ≤ k ∧ k ≤ 500) (st : Nat) (F : List Bool) (f : Bool) (w : List Int) (hw : w.length ≤ 100000) (hw0 : ∀ x ∈ w, 0 ≤ x) (hR : ∀ s, (M.getD s []).length ≤ 1000) :
    Contract Try.prog 9 [nfaD L st F M, .sl f (ints w)] (bo (takB M F st w)) [] := by
  refine contract_of_awp (rs := [4]) Try.func9 rfl Try.ntmps9 (by simp) rfl fun E => ?_
  have hkl := h.len
  have hc0 := c_EClose h ⟨by omega, by omega⟩ st F false [(st : Int)] (by simp) hR
  have hlen := fun u => takS_len M (cloL_len M [(st : Int)]) u
  have hsn := fun u a => takS_snoc M a u (cloL M [(st : Int)])
  have e1 : ints [(st : Int)] = [[i64 st]] := rfl
  rw [e1] at hc0
  (repeat (first | refine awp_seq ?_ | refine awp_block ?_ | ((first | refine awp_skip ?_ | refine awp_exit ?_ | refine awp_reg ttok ?_ | (refine awp_draw ttok ?dr_calm ?_; (case dr_calm => decide +kernel)) | refine awp_condM ?_); simp (maxSteps := 4000000) only [↓reduceIte, Nat.reduceLT, Nat.reduceEqDiff, reduceCtorEq, Nat.reduceAdd, Nat.reduceMul, Int.reduceLE, Int.reduceLT, Int.reduceToNat, Nat.reduceLeDiff, Nat.reduceSub, Int.reduceEq, Nat.reduceBEq, List.replicate, List.set, evB, tyA, nfaD]; (repeat (with_reducible refine And.intro ?_ ?_; exact sdX)); (with_reducible first | refine awp_id ?_ | refine id_call ?_ | refine id_and ?_ | refine id_ex ?_ | refine id_all ?_ | refine id_nat ?_ | refine id_le ?_))))
  refine callVC_mk fnok15 hc0 rfl ?_
  simp (maxSteps := 4000000) only [↓reduceIte, Nat.reduceLT, Nat.reduceEqDiff, reduceCtorEq, Nat.reduceAdd, Nat.reduceMul, Int.reduceLE, Int.reduceLT, Int.reduceToNat, Nat.reduceLeDiff, Nat.reduceSub, Int.reduceEq, Nat.reduceBEq, List.replicate, List.set, evB, tyA, nfaD]
  (repeat (with_reducible refine And.intro ?_ ?_; exact sdX))
  (repeat (first | refine awp_seq ?_ | refine awp_block ?_ | ((first | refine awp_skip ?_ | refine awp_exit ?_ | refine awp_reg ttok ?_ | (refine awp_draw ttok ?dr_calm ?_; (case dr_calm => decide +kernel)) | refine awp_condM ?_); simp (maxSteps := 4000000) only [↓reduceIte, Nat.reduceLT, Nat.reduceEqDiff, reduceCtorEq, Nat.reduceAdd, Nat.reduceMul, Int.reduceLE, Int.reduceLT, Int.reduceToNat, Nat.reduceLeDiff, Nat.reduceSub, Int.reduceEq, Nat.reduceBEq, List.replicate, List.set, evB, tyA]; (repeat (with_reducible refine And.intro ?_ ?_; exact sdX)); (with_reducible first | refine awp_id ?_ | refine id_call ?_ | refine id_and ?_ | refine id_ex ?_ | refine id_all ?_ | refine id_nat ?_ | refine id_le ?_))))
  refine awp_loop (X := Nat) (fun i => mkS 31 [(2, .ptr 1000 0 0), (5, .sl false (ints (takS M (cloL M [(st : Int)]) (w.take i)))), (13, .sl f (ints w)), (14, i64 w.length), (15, i64 i)]
      [(1000, { sz := 4, rows := [[i64 L, i64 st, .sl false (bos F), .sl false (mmv M)]], flat := false })]) (fun i => i ≤ w.length) (fun i => w.length - i) 0 (Nat.zero_le _) (mkS_le rfl ?_ ?_) ?_
  · simp (maxSteps := 4000000) only [↓reduceIte, Nat.reduceLT, Nat.reduceEqDiff, reduceCtorEq, Nat.reduceAdd, Nat.reduceMul, Int.reduceLE, Int.reduceLT, Int.reduceToNat, Nat.reduceLeDiff, Nat.reduceSub, Int.reduceEq, Nat.reduceBEq, List.replicate, List.set, evB, takS]
    try rfl
  · simp (maxSteps := 4000000) only [↓reduceIte, Nat.reduceLT, Nat.reduceEqDiff, reduceCtorEq, Nat.reduceAdd, Nat.reduceMul, Int.reduceLE, Int.reduceLT, Int.reduceToNat, Nat.reduceLeDiff, Nat.reduceSub, Int.reduceEq, Nat.reduceBEq, List.replicate, List.set, evB]
    try rfl
  · intro i hi
    by_cases hlt : i < w.length
    · have d1 : decide ((i : Int) < (w.length : Int)) = true := by simpa using hlt
      have hwi : IntKind.i64.wrap ((i : Int) + 1) = ((i + 1 : Nat) : Int) := i64_in (by omega) (by omega)
      have hgw := ints_get hlt
      have hx0 := hw0 _ (getD_mem hlt 0)
      have hnx : takS M (cloL M [(st : Int)]) (w.take (i + 1)) = cloL M (stepL M (takS M (cloL M [(st : Int)]) (w.take i)) (w.getD i 0)) := by rw [take_snoc hlt (0 : Int), hsn]
      have hol := hlen (w.take i)
      generalize takS M (cloL M [(st : Int)]) (w.take i) = o at *
      generalize w.getD i 0 = x at *
      have e2 : decide (x < 0) = false := by simpa using hx0
      have hS := c_EStep h (by omega) st F false o (by omega) hR x
      have hsl : (stepL M o x).length ≤ M.length := onL_len _ _
      have hC := c_EClose h ⟨by omega, by omega⟩ st F false (stepL M o x) (by omega) hR
      (repeat (first | refine awp_seq ?_ | refine awp_block ?_ | ((first | refine awp_skip ?_ | refine awp_exit ?_ | refine awp_reg ttok ?_ | (refine awp_draw ttok ?dr_calm ?_; (case dr_calm => decide +kernel)) | refine awp_condM ?_); simp (maxSteps := 4000000) only [↓reduceIte, Nat.reduceLT, Nat.reduceEqDiff, reduceCtorEq, Nat.reduceAdd, Nat.reduceMul, Int.reduceLE, Int.reduceLT, Int.reduceToNat, Nat.reduceLeDiff, Nat.reduceSub, Int.reduceEq, Nat.reduceBEq, List.replicate, List.set, evB, tyA, d1, hgw, e2]; (repeat (with_reducible refine And.intro ?_ ?_; exact sdX)); (with_reducible first | refine awp_id ?_ | refine id_call ?_ | refine id_and ?_ | refine id_ex ?_ | refine id_all ?_ | refine id_nat ?_ | refine id_le ?_))))
      refine awp_drawG ttok ((0, none) :: (1, none) :: (2, none) :: (3, none) :: (4, some [0]) :: (5, some []) :: (6, none) :: []) ([]) ([]) (by decide +kernel) fun O hO => ?_; simp only [OpsAre, Nat.reduceAdd, and_true, List.toList_toArray, List.append_eq, List.cons_append, List.nil_append] at hO; simp (maxSteps := 4000000) only [↓reduceIte, Nat.reduceLT, Nat.reduceEqDiff, reduceCtorEq, Nat.reduceAdd, Nat.reduceMul, Int.reduceLE, Int.reduceLT, Int.reduceToNat, Nat.reduceLeDiff, Nat.reduceSub, Int.reduceEq, Nat.reduceBEq, List.replicate, List.set, evB, tyA, hO, nfaD]; (repeat (with_reducible refine And.intro ?_ ?_; exact sdX))
      refine callVC_mk fnok14 hS rfl ?_
      simp (maxSteps := 4000000) only [↓reduceIte, Nat.reduceLT, Nat.reduceEqDiff, reduceCtorEq, Nat.reduceAdd, Nat.reduceMul, Int.reduceLE, Int.reduceLT, Int.reduceToNat, Nat.reduceLeDiff, Nat.reduceSub, Int.reduceEq, Nat.reduceBEq, List.replicate, List.set, evB, tyA, hO, nfaD]
      (repeat (with_reducible refine And.intro ?_ ?_; exact sdX))
      refine callVC_mk fnok15 hC rfl ?_
      simp (maxSteps := 4000000) only [↓reduceIte, Nat.reduceLT, Nat.reduceEqDiff, reduceCtorEq, Nat.reduceAdd, Nat.reduceMul, Int.reduceLE, Int.reduceLT, Int.reduceToNat, Nat.reduceLeDiff, Nat.reduceSub, Int.reduceEq, Nat.reduceBEq, List.replicate, List.set, evB, tyA, hO, nfaD]
      (repeat (with_reducible refine And.intro ?_ ?_; exact sdX))
      (repeat (first | refine awp_seq ?_ | refine awp_block ?_ | ((first | refine awp_skip ?_ | refine awp_exit ?_ | refine awp_reg ttok ?_ | (refine awp_draw ttok ?dr_calm ?_; (case dr_calm => decide +kernel)) | refine awp_condM ?_); simp (maxSteps := 4000000) only [↓reduceIte, Nat.reduceLT, Nat.reduceEqDiff, reduceCtorEq, Nat.reduceAdd, Nat.reduceMul, Int.reduceLE, Int.reduceLT, Int.reduceToNat, Nat.reduceLeDiff, Nat.reduceSub, Int.reduceEq, Nat.reduceBEq, List.replicate, List.set, evB, tyA, hwi]; (repeat (with_reducible refine And.intro ?_ ?_; exact sdX)); (with_reducible first | refine awp_id ?_ | refine id_call ?_ | refine id_and ?_ | refine id_ex ?_ | refine id_all ?_ | refine id_nat ?_ | refine id_le ?_))))
      refine ⟨i + 1, by omega, by omega, mkS_le rfl ?_ ?_⟩
      · simp (maxSteps := 4000000) only [↓reduceIte, Nat.reduceLT, Nat.reduceEqDiff, reduceCtorEq, Nat.reduceAdd, Nat.reduceMul, Int.reduceLE, Int.reduceLT, Int.reduceToNat, Nat.reduceLeDiff, Nat.reduceSub, Int.reduceEq, Nat.reduceBEq, List.replicate, List.set, evB, hnx]
      · exact evX
    · have d1 : decide ((i : Int) < (w.length : Int)) = false := by simpa using hlt
      have hlt2 : w.take i = w := List.take_of_length_le (by omega)
      rw [hlt2]
      have hol := hlen w
      have hF := c_EFinal L st F M false (takS M (cloL M [(st : Int)]) w) (by omega)
      (repeat (first | refine awp_seq ?_ | refine awp_block ?_ | ((first | refine awp_skip ?_ | refine awp_exit ?_ | refine awp_reg ttok ?_ | (refine awp_draw ttok ?dr_calm ?_; (case dr_calm => decide +kernel)) | refine awp_condM ?_); simp (maxSteps := 4000000) only [↓reduceIte, Nat.reduceLT, Nat.reduceEqDiff, reduceCtorEq, Nat.reduceAdd, Nat.reduceMul, Int.reduceLE, Int.reduceLT, Int.reduceToNat, Nat.reduceLeDiff, Nat.reduceSub, Int.reduceEq, Nat.reduceBEq, List.replicate, List.set, evB, tyA, d1]; (repeat (with_reducible refine And.intro ?_ ?_; exact sdX)); (with_reducible first | refine awp_id ?_ | refine id_call ?_ | refine id_and ?_ | refine id_ex ?_ | refine id_all ?_ | refine id_nat ?_ | refine id_le ?_))))
      refine callVC_scal fnok18 hF rfl ?_
      simp (maxSteps := 4000000) only [↓reduceIte, Nat.reduceLT, Nat.reduceEqDiff, reduceCtorEq, Nat.reduceAdd, Nat.reduceMul, Int.reduceLE, Int.reduceLT, Int.reduceToNat, Nat.reduceLeDiff, Nat.reduceSub, Int.reduceEq, Nat.reduceBEq, List.replicate, List.set, evB, tyA, nfaD]
      (repeat (with_reducible refine And.intro ?_ ?_; exact sdX))
      (repeat (first | refine awp_seq ?_ | refine awp_block ?_ | ((first | refine awp_skip ?_ | refine awp_exit ?_ | refine awp_reg ttok ?_ | (refine awp_draw ttok ?dr_calm ?_; (case dr_calm => decide +kernel)) | refine awp_condM ?_); simp (maxSteps := 4000000) only [↓reduceIte, Nat.reduceLT, Nat.reduceEqDiff, reduceCtorEq, Nat.reduceAdd, Nat.reduceMul, Int.reduceLE, Int.reduceLT, Int.reduceToNat, Nat.reduceLeDiff, Nat.reduceSub, Int.reduceEq, Nat.reduceBEq, List.replicate, List.set, evB, tyA]; (repeat (with_reducible refine And.intro ?_ ?_; exact sdX)); (with_reducible first | refine awp_id ?_ | refine id_call ?_ | refine id_and ?_ | refine id_ex ?_ | refine id_all ?_ | refine id_nat ?_ | refine id_le ?_))))
      exact awp_ret (ends_plain (.inr rfl) rfl (by simp (maxSteps := 4000000) only [↓reduceIte, Nat.reduceLT, Nat.reduceEqDiff, reduceCtorEq, Nat.reduceAdd, Nat.reduceMul, Int.reduceLE, Int.reduceLT, Int.reduceToNat, Nat.reduceLeDiff, Nat.reduceSub, Int.reduceEq, Nat.reduceBEq, List.replicate, List.set, evB]; rfl))
end Go.Proofs.Ytbhjmioegdgpnaa
