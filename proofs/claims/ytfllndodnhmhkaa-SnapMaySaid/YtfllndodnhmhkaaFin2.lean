/-
  What laws are handed: structs of three plain fields, arrays.
-/
import Derived.Test.YtfllndodnhmhkaaFin
namespace Go.Proofs.Ytfllndodnhmhkaa
open Go.Ab
set_option linter.unusedSimpArgs false
set_option linter.unusedVariables false

section
variable {P : Program}

theorem opens_cell {t : TypeId} {α : Type} {enc : α → D} {ok : α → Prop} (h : Opens P t (fun a => [enc a]) ok) {H : Type} {encH : TypeId × Value → H} {w : World} {fuel : Nat} {cs : List Value} {off : Nat} {y : DataW H × List MemPlace}
    (hl : off < cs.length) (hx : DataW.trod encH P w 0 (fun _ => true) true fuel t ((cs.drop off).take 1) = some y) : ∃ a, ok a ∧ ∃ v, cs[off]? = some v ∧ Rep (immOf w) noLocs (enc a) v ∧ v.oneCell' = true := by
  obtain ⟨a, g1, g2, g3⟩ := h H encH w fuel _ _ hx
  have hv : cs[off]? = some (cs[off]'hl) := List.getElem?_eq_getElem hl
  have h2 : ((cs.drop off).take 1)[0]? = some (cs[off]'hl) := by
    rw [List.getElem?_take, if_pos (by decide), List.getElem?_drop]
    exact hv
  have := g3 0 (enc a) _ rfl h2
  exact ⟨a, g1, _, hv, this.1, this.2⟩

/-- Three fields of one cell each. -/
theorem opens_struct3 {t : TypeId} {f0 f1 f2 : Field} {α β γ : Type} {e0 : α → D} {e1 : β → D} {e2 : γ → D} {k0 : α → Prop} {k1 : β → Prop} {k2 : γ → Prop} (ht : P.underlying t = some (.struct #[f0, f1, f2])) (hct : P.cellsOf t = 3)
    (o0 : f0.offset = 0) (o1 : f1.offset = 1) (o2 : f2.offset = 2) (c0 : P.cellsOf f0.type = 1) (c1 : P.cellsOf f1.type = 1) (c2 : P.cellsOf f2.type = 1)
    (h0 : Opens P f0.type (fun a => [e0 a]) k0) (h1 : Opens P f1.type (fun a => [e1 a]) k1) (h2 : Opens P f2.type (fun a => [e2 a]) k2) :
    Opens P t (fun x : α × β × γ => [e0 x.1, e1 x.2.1, e2 x.2.2]) (fun x => k0 x.1 ∧ k1 x.2.1 ∧ k2 x.2.2) := by
  intro H encH w fuel cs x hx
  obtain ⟨xs, n, _, rfl, hl, hlen, hf⟩ := DataW.trod_struct ht hx
  rw [hct] at hl
  have g0 := hf 0 f0 rfl
  have g1 := hf 1 f1 rfl
  have g2 := hf 2 f2 rfl
  rw [o0, c0] at g0
  rw [o1, c1] at g1
  rw [o2, c2] at g2
  rw [List.getElem?_eq_getElem (by rw [hlen]; simp)] at g0 g1 g2
  obtain ⟨a, q0, v0, z0, r0⟩ := opens_cell h0 (by omega) g0
  obtain ⟨b, q1, v1, z1, r1⟩ := opens_cell h1 (by omega) g1
  obtain ⟨c, q2, v2, z2, r2⟩ := opens_cell h2 (by omega) g2
  refine ⟨(a, b, c), ⟨q0, q1, q2⟩, hl, fun i d v p1 p2 => ?_⟩
  match i, p1, p2 with
  | 0, p1, p2 => rw [z0] at p2; simp at p1 p2; subst p1 p2; exact r0
  | 1, p1, p2 => rw [z1] at p2; simp at p1 p2; subst p1 p2; exact r1
  | 2, p1, p2 => rw [z2] at p2; simp at p1 p2; subst p1 p2; exact r2
  | n + 3, p1, p2 => simp at p1

/-- So many in a row, of one cell each. -/
theorem opens_arr {t e : TypeId} {n : Nat} {α : Type} {enc : α → D} {ok : α → Prop} (ht : P.underlying t = some (.array n e)) (hc : P.cellsOf e = 1) (hct : P.cellsOf t = n) (he : Opens P e (fun a => [enc a]) ok) :
    Opens P t (fun l : List α => l.map enc) (fun l => l.length = n ∧ ∀ a ∈ l, ok a) := by
  intro H encH w fuel cs x hx
  obtain ⟨xs, m, rfl, rfl, hl, hlen, h⟩ := DataW.trod_array ht hx
  rw [hct] at hl
  have key : ∀ i, i < n → ∃ a, ok a ∧ ∃ v, cs[i]? = some v ∧ Rep (immOf w) noLocs (enc a) v ∧ v.oneCell' = true := by
    intro i hi
    have h1 := h i hi
    rw [hc, Nat.mul_one, List.getElem?_eq_getElem (by omega)] at h1
    exact opens_cell he (by omega) h1
  obtain ⟨l, hll, hlp⟩ := choose_list key
  refine ⟨l, ⟨hll, fun a ha => ?_⟩, by simp; omega, fun i d v q1 q2 => ?_⟩
  · obtain ⟨i, hi⟩ := List.getElem?_of_mem ha
    exact (hlp i a hi).1
  · rw [List.getElem?_map] at q1
    cases hq : l[i]? with
    | none => simp [hq] at q1
    | some a =>
      simp [hq] at q1
      subst q1
      obtain ⟨_, v', hv', r⟩ := hlp i a hq
      rw [hv'] at q2; cases q2
      exact r

theorem opens_arr2i {t e : TypeId} (ht : P.underlying t = some (.array 2 e)) (hc : P.cellsOf e = 1) (hct : P.cellsOf t = 2) (he : P.underlying e = some (.int .i64)) :
    Opens P t (fun x : Int × Int => [i64 x.1, i64 x.2]) (fun x => (-9223372036854775808 ≤ x.1 ∧ x.1 ≤ 9223372036854775807) ∧ (-9223372036854775808 ≤ x.2 ∧ x.2 ≤ 9223372036854775807)) :=
  opens_map (opens_arr ht hc hct (opens_i64 he)) fun l hl => by
    obtain ⟨h1, h2⟩ := hl
    match l, h1 with
    | [a, b], _ => exact ⟨(a, b), ⟨h2 a (by simp), h2 b (by simp)⟩, rfl⟩
theorem opens_arr3i {t e : TypeId} (ht : P.underlying t = some (.array 3 e)) (hc : P.cellsOf e = 1) (hct : P.cellsOf t = 3) (he : P.underlying e = some (.int .i64)) :
    Opens P t (fun x : Int × Int × Int => [i64 x.1, i64 x.2.1, i64 x.2.2]) (fun x => (-9223372036854775808 ≤ x.1 ∧ x.1 ≤ 9223372036854775807) ∧ (-9223372036854775808 ≤ x.2.1 ∧ x.2.1 ≤ 9223372036854775807) ∧ (-9223372036854775808 ≤ x.2.2 ∧ x.2.2 ≤ 9223372036854775807)) :=
  opens_map (opens_arr ht hc hct (opens_i64 he)) fun l hl => by
    obtain ⟨h1, h2⟩ := hl
    match l, h1 with
    | [a, b, c], _ => exact ⟨(a, b, c), ⟨h2 a (by simp), h2 b (by simp), h2 c (by simp)⟩, rfl⟩

end
end Go.Proofs.Ytfllndodnhmhkaa
