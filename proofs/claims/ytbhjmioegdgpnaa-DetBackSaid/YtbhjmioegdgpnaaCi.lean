/-
  How eps.Close goes: what holds at each turn.
-/
import Derived.Test.YtbhjmioegdgpnaaClo
import Derived.Test.YtbhjmioegdgpnaaSo
namespace Go.Proofs.Ytbhjmioegdgpnaa
open Go.Ab
set_option linter.unusedSimpArgs false
set_option linter.unusedVariables false

structure CI (M : Mv) (l : List Int) (n : Nat) (cur : Option (Nat × Nat)) (seen : List Bool) (todo out : List Int) : Prop where
  len : seen.length = M.length
  nd : out.Nodup
  mem : ∀ y, y ∈ out ↔ ∃ x : Nat, y = (x : Int) ∧ seen.getD x false = true
  er : ∀ x : Nat, seen.getD x false = true → ER M l x
  tod : ∀ y ∈ todo, y ∈ out
  tnd : todo.Nodup
  clo : ∀ s : Nat, (s : Int) ∈ out → (s : Int) ∉ todo → ∀ i, i < (M.getD s []).length → (∀ c j, cur = some (c, j) → s = c → i < j) → ∀ t : Nat, (M.getD s []).getD i (0, 0) = (-1, (t : Int)) → t < M.length → seen.getD t false = true
  base : ∀ i, i < n → ∀ x : Nat, l.getD i 0 = (x : Int) → x < M.length → seen.getD x false = true
section
variable {M : Mv} {l : List Int} {n : Nat} {seen : List Bool} {todo out : List Int}
theorem CI.init (M : Mv) (l : List Int) : CI M l 0 none (List.replicate M.length false) [] [] where
  len := by simp
  nd := by simp
  mem := fun y => by
    simp only [List.not_mem_nil, false_iff, not_exists, not_and]
    intro x _ h
    have := getD_lt_true h
    simp [List.getD, show x < M.length by simpa using this] at h
  er := fun x h => by
    have := getD_lt_true h
    simp [List.getD, show x < M.length by simpa using this] at h
  tod := by simp
  tnd := by simp
  clo := by simp
  base := by simp
theorem CI.add {cur cur' : Option (Nat × Nat)} (h : CI M l n cur seen todo out) {x : Nat} (hx : x < M.length) (hs : seen.getD x false = false) (hr : ER M l x)
    (hc : ∀ s i, (∀ c j, cur' = some (c, j) → s = c → i < j) → (∀ c j, cur = some (c, j) → s = c → i < j) ∨ (M.getD s []).getD i (0, 0) = (-1, (x : Int)) ∨ ∀ t : Nat, (M.getD s []).getD i (0, 0) ≠ (-1, (t : Int))) : CI M l n cur' (seen.set x true) (todo ++ [(x : Int)]) (out ++ [(x : Int)]) where
  len := by rw [List.length_set]; exact h.len
  nd := by
    rw [List.nodup_append]
    refine ⟨h.nd, by simp, fun a ha b hb => ?_⟩
    rw [List.mem_singleton] at hb
    subst hb
    rintro rfl
    obtain ⟨y, e, hy⟩ := (h.mem _).1 ha
    rw [← Int.ofNat_inj.1 e, hs] at hy
    cases hy
  mem := fun y => by
    rw [List.mem_append, List.mem_singleton, h.mem]
    constructor
    · rintro (⟨z, rfl, hz⟩ | rfl)
      · exact ⟨z, rfl, (set_ble seen x).2 z hz⟩
      · exact ⟨x, rfl, getD_set_self (by rw [h.len]; exact hx)⟩
    · rintro ⟨z, rfl, hz⟩
      by_cases e : x = z
      · subst e; exact .inr rfl
      · rw [getD_set_nq e] at hz; exact .inl ⟨z, rfl, hz⟩
  er := fun z hz => by
    by_cases e : x = z
    · subst e; exact hr
    · rw [getD_set_nq e] at hz; exact h.er z hz
  tod := fun y hy => by
    rw [List.mem_append] at hy ⊢
    rcases hy with q | q
    · exact .inl (h.tod y q)
    · exact .inr q
  tnd := by
    rw [List.nodup_append]
    refine ⟨h.tnd, by simp, fun a ha b hb => ?_⟩
    rw [List.mem_singleton] at hb
    subst hb
    rintro rfl
    obtain ⟨y, e, hy⟩ := (h.mem _).1 (h.tod _ ha)
    rw [← Int.ofNat_inj.1 e, hs] at hy
    cases hy
  clo := fun s hso hst i hi hcur t ht htk => by
    have hst' : (s : Int) ∉ todo := fun q => hst (List.mem_append_left _ q)
    have hso' : (s : Int) ∈ out := by
      rcases List.mem_append.1 hso with q | q
      · exact q
      · exact absurd (List.mem_append_right _ q) hst
    rcases hc s i hcur with q | q | q
    · exact (set_ble seen x).2 t (h.clo s hso' hst' i hi q t ht htk)
    · rw [q] at ht
      have : x = t := by
        have := (Prod.mk.inj ht).2
        exact Int.ofNat_inj.1 this
      subst this
      exact getD_set_self (by rw [h.len]; exact hx)
    · exact absurd ht (q t)
  base := fun i hi z hz hzk => (set_ble seen x).2 z (h.base i hi z hz hzk)
theorem CI.base_skip {cur : Option (Nat × Nat)} (h : CI M l n cur seen todo out) (hc : ∀ x : Nat, l.getD n 0 = (x : Int) → x < M.length → seen.getD x false = true) : CI M l (n + 1) cur seen todo out where
  len := h.len
  nd := h.nd
  mem := h.mem
  er := h.er
  tod := h.tod
  tnd := h.tnd
  clo := h.clo
  base := fun i hi x hx hk => by
    rcases Nat.lt_or_ge i n with q | q
    · exact h.base i q x hx hk
    · rw [show i = n by omega] at hx
      exact hc x hx hk
theorem CI.base_add (h : CI M l n none seen todo out) (hn : n < l.length) {x : Nat} (he : l.getD n 0 = (x : Int)) (hx : x < M.length) (hs : seen.getD x false = false) : CI M l (n + 1) none (seen.set x true) (todo ++ [(x : Int)]) (out ++ [(x : Int)]) := by
  have hm : (x : Int) ∈ l := by rw [← he]; simp [List.getD, List.getElem?_eq_getElem hn]
  refine (h.add hx hs (.base hm hx) fun s i q => .inl q).base_skip fun z hz hk => ?_
  rw [he] at hz
  rw [← Int.ofNat_inj.1 hz]
  exact getD_set_self (by rw [h.len]; exact hx)
theorem CI.pop {s : Nat} (h : CI M l n none seen (todo ++ [(s : Int)]) out) : CI M l n (some (s, 0)) seen todo out where
  len := h.len
  nd := h.nd
  mem := h.mem
  er := h.er
  tod := fun y hy => h.tod y (List.mem_append_left _ hy)
  tnd := (List.nodup_append.1 h.tnd).1
  clo := fun z hzo hzt i hi hcur t ht htk => by
    by_cases e : z = s
    · have := hcur s 0 rfl e; omega
    · refine h.clo z hzo (fun q => ?_) i hi (fun _ _ q => by cases q) t ht htk
      rcases List.mem_append.1 q with q | q
      · exact hzt q
      · exact e (Int.ofNat_inj.1 (List.mem_singleton.1 q))
  base := h.base
theorem CI.skip {s j : Nat} (h : CI M l n (some (s, j)) seen todo out) (hc : ∀ t : Nat, (M.getD s []).getD j (0, 0) = (-1, (t : Int)) → t < M.length → seen.getD t false = true) : CI M l n (some (s, j + 1)) seen todo out where
  len := h.len
  nd := h.nd
  mem := h.mem
  er := h.er
  tod := h.tod
  tnd := h.tnd
  clo := fun z hzo hzt i hi hcur t ht htk => by
    by_cases e : z = s
    · have hij := hcur s (j + 1) rfl e
      by_cases g : i = j
      · subst e g; exact hc t ht htk
      · exact h.clo z hzo hzt i hi (fun c j' q q2 => by cases q; omega) t ht htk
    · exact h.clo z hzo hzt i hi (fun c j' q q2 => by cases q; exact absurd q2 e) t ht htk
  base := h.base
theorem CI.add2 {s j : Nat} (h : CI M l n (some (s, j)) seen todo out) {t : Nat} (hso : ER M l s) (hj : j < (M.getD s []).length) (he : (M.getD s []).getD j (0, 0) = (-1, (t : Int))) (ht : t < M.length) (hs : seen.getD t false = false) : CI M l n (some (s, j + 1)) (seen.set t true) (todo ++ [(t : Int)]) (out ++ [(t : Int)]) := by
  have hm : ((-1 : Int), (t : Int)) ∈ M.getD s [] := by
    rw [← he]
    generalize M.getD s [] = r at *
    simp [List.getD, List.getElem?_eq_getElem hj]
  refine h.add ht hs (.step hso hm ht) fun z i q => ?_
  by_cases e : z = s
  · subst e
    have hij := q z (j + 1) rfl rfl
    by_cases g : i = j
    · subst g; exact .inr (.inl he)
    · exact .inl fun c j' q1 q2 => by cases q1; omega
  · exact .inl fun c j' q1 q2 => by cases q1; exact absurd q2 e
theorem CI.done {s : Nat} (h : CI M l n (some (s, (M.getD s []).length)) seen todo out) : CI M l n none seen todo out where
  len := h.len
  nd := h.nd
  mem := h.mem
  er := h.er
  tod := h.tod
  tnd := h.tnd
  clo := fun z hzo hzt i hi hcur t ht htk => h.clo z hzo hzt i hi (fun c j' q q2 => by cases q; rw [q2] at hi; exact hi) t ht htk
  base := h.base
theorem CI.end_ {L k : Nat} (hM : MOk L k M) (h : CI M l l.length none seen [] out) : sortI out = cloL M l := by
  refine sort_nd h.nd (onL_sorted _ _) fun y => ?_
  rw [cloL_mem hM, h.mem]
  constructor
  · rintro ⟨x, rfl, hx⟩; exact ⟨x, rfl, h.er x hx⟩
  · rintro ⟨x, rfl, hx⟩
    refine ⟨x, rfl, ?_⟩
    induction hx with
    | @base x hm hk =>
      obtain ⟨i, hi, e⟩ := List.getElem_of_mem hm
      exact h.base i hi x (by simp [List.getD, List.getElem?_eq_getElem hi, e]) hk
    | @step s t hs hm ht ih =>
      obtain ⟨i, hi, e⟩ := List.getElem_of_mem hm
      have e2 : (M.getD s []).getD i (0, 0) = (-1, (t : Int)) := by
        clear hm
        generalize M.getD s [] = r at *
        simp [List.getD, List.getElem?_eq_getElem hi, e]
      exact h.clo s ((h.mem _).2 ⟨s, rfl, ih⟩) (by simp) i hi (fun _ _ q => by cases q) t e2 ht
theorem filter_split (p : Int → Bool) : ∀ o : List Int, o.length = (o.filter p).length + (o.filter fun y => !p y).length
  | [] => rfl
  | y :: o => by
    have ih := filter_split p o
    cases hp : p y <;> simp [hp] <;> omega
theorem nat_count : ∀ (b : List Bool) (o : List Int), o.Nodup → (∀ y ∈ o, ∃ x : Nat, y = (x : Int) ∧ b.getD x false = true) → o.length ≤ b.count true := by

  intro b
  induction b with
  | nil =>
    intro o _ hm
    cases o with
    | nil => simp
    | cons y o =>
      obtain ⟨x, _, hx⟩ := hm y (by simp)
      simp [List.getD] at hx
  | cons c b ih =>
    intro o hnd hm
    let o2 := (o.filter fun y => decide (y ≠ 0)).map (· - 1)
    have h1 : o2.Nodup := by
      refine List.Pairwise.map _ (fun a b q => by omega) (hnd.filter _)
    have h2 : ∀ y ∈ o2, ∃ x : Nat, y = (x : Int) ∧ b.getD x false = true := fun y hy => by
      obtain ⟨z, hz, rfl⟩ := List.mem_map.1 hy
      obtain ⟨hz1, hz2⟩ := List.mem_filter.1 hz
      obtain ⟨x, rfl, hx⟩ := hm z hz1
      have hx0 : x ≠ 0 := by simpa using hz2
      obtain ⟨x', rfl⟩ := Nat.exists_eq_succ_of_ne_zero hx0
      exact ⟨x', by simp, by simpa using hx⟩
    have h3 := ih o2 h1 h2
    have h4 : o.length ≤ o2.length + (if c = true then 1 else 0) := by
      have e1 : o2.length = (o.filter fun y => decide (y ≠ 0)).length := by simp [o2]
      have e2 : o.length = (o.filter fun y => decide (y ≠ 0)).length + (o.filter fun y => !decide (y ≠ 0)).length := by
        exact filter_split _ o
      have e3 : (o.filter fun y => !decide (y ≠ 0)).length ≤ if c = true then 1 else 0 := by
        have hf : ∀ y ∈ o.filter fun y => !decide (y ≠ 0), y = 0 := fun y hy => by simpa using (List.mem_filter.1 hy).2
        have hnf := hnd.filter fun y => !decide (y ≠ 0)
        cases hq : o.filter fun y => !decide (y ≠ 0) with
        | nil => simp
        | cons y q =>
          rw [hq] at hf hnf
          have hy := hf y (by simp)
          cases q with
          | cons z q =>
            have hz := hf z (by simp)
            subst hy hz
            simp at hnf
          | nil =>
            have hmem : y ∈ o := (List.mem_filter.1 (show y ∈ o.filter fun y => !decide (y ≠ 0) by rw [hq]; simp)).1
            obtain ⟨x, e, hx⟩ := hm y hmem
            have : x = 0 := by omega
            subst this
            have hc : c = true := by simpa using hx
            rw [if_pos hc]; simp
      omega
    rw [List.count_cons]
    cases c <;> simp at h4 ⊢ <;> omega
/-- There are no more than states. -/
theorem CI.out_le {cur : Option (Nat × Nat)} (h : CI M l n cur seen todo out) : out.length ≤ seen.count true := nat_count seen out h.nd fun y hy => (h.mem y).1 hy
theorem CI.todo_le {cur : Option (Nat × Nat)} (h : CI M l n cur seen todo out) : todo.length ≤ seen.count true := nat_count seen todo h.tnd fun y hy => (h.mem y).1 (h.tod y hy)
end

end Go.Proofs.Ytbhjmioegdgpnaa
