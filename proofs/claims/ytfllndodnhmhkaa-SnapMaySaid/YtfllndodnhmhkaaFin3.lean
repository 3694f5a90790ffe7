/-
  What laws are handed: structs of two and of four fields of one cell each.
-/
import Derived.Test.YtfllndodnhmhkaaFin2
namespace Go.Proofs.Ytfllndodnhmhkaa
open Go.Ab
set_option linter.unusedSimpArgs false
set_option linter.unusedVariables false

section
variable {P : Program}

theorem opens_struct2 {t : TypeId} {f0 f1 : Field} {α β : Type} {e0 : α → D} {e1 : β → D} {k0 : α → Prop} {k1 : β → Prop} (ht : P.underlying t = some (.struct #[f0, f1])) (hct : P.cellsOf t = 2)
    (o0 : f0.offset = 0) (o1 : f1.offset = 1) (c0 : P.cellsOf f0.type = 1) (c1 : P.cellsOf f1.type = 1)
    (h0 : Opens P f0.type (fun a => [e0 a]) k0) (h1 : Opens P f1.type (fun a => [e1 a]) k1) :
    Opens P t (fun x : α × β => [e0 x.1, e1 x.2]) (fun x => k0 x.1 ∧ k1 x.2) := by
  intro H encH w fuel cs x hx
  obtain ⟨xs, n, _, rfl, hl, hlen, hf⟩ := DataW.trod_struct ht hx
  rw [hct] at hl
  have g0 := hf 0 f0 rfl
  have g1 := hf 1 f1 rfl
  rw [o0, c0] at g0
  rw [o1, c1] at g1
  rw [List.getElem?_eq_getElem (by rw [hlen]; simp)] at g0 g1
  obtain ⟨a, q0, v0, z0, r0⟩ := opens_cell h0 (by omega) g0
  obtain ⟨b, q1, v1, z1, r1⟩ := opens_cell h1 (by omega) g1
  refine ⟨(a, b), ⟨q0, q1⟩, hl, fun i d v p1 p2 => ?_⟩
  match i, p1, p2 with
  | 0, p1, p2 => rw [z0] at p2; simp at p1 p2; subst p1 p2; exact r0
  | 1, p1, p2 => rw [z1] at p2; simp at p1 p2; subst p1 p2; exact r1
  | n + 2, p1, p2 => simp at p1

theorem opens_struct4 {t : TypeId} {f0 f1 f2 f3 : Field} {α β γ δ : Type} {e0 : α → D} {e1 : β → D} {e2 : γ → D} {e3 : δ → D} {k0 : α → Prop} {k1 : β → Prop} {k2 : γ → Prop} {k3 : δ → Prop} (ht : P.underlying t = some (.struct #[f0, f1, f2, f3])) (hct : P.cellsOf t = 4)
    (o0 : f0.offset = 0) (o1 : f1.offset = 1) (o2 : f2.offset = 2) (o3 : f3.offset = 3) (c0 : P.cellsOf f0.type = 1) (c1 : P.cellsOf f1.type = 1) (c2 : P.cellsOf f2.type = 1) (c3 : P.cellsOf f3.type = 1)
    (h0 : Opens P f0.type (fun a => [e0 a]) k0) (h1 : Opens P f1.type (fun a => [e1 a]) k1) (h2 : Opens P f2.type (fun a => [e2 a]) k2) (h3 : Opens P f3.type (fun a => [e3 a]) k3) :
    Opens P t (fun x : α × β × γ × δ => [e0 x.1, e1 x.2.1, e2 x.2.2.1, e3 x.2.2.2]) (fun x => k0 x.1 ∧ k1 x.2.1 ∧ k2 x.2.2.1 ∧ k3 x.2.2.2) := by
  intro H encH w fuel cs x hx
  obtain ⟨xs, n, _, rfl, hl, hlen, hf⟩ := DataW.trod_struct ht hx
  rw [hct] at hl
  have g0 := hf 0 f0 rfl
  have g1 := hf 1 f1 rfl
  have g2 := hf 2 f2 rfl
  have g3 := hf 3 f3 rfl
  rw [o0, c0] at g0
  rw [o1, c1] at g1
  rw [o2, c2] at g2
  rw [o3, c3] at g3
  rw [List.getElem?_eq_getElem (by rw [hlen]; simp)] at g0 g1 g2 g3
  obtain ⟨a, q0, v0, z0, r0⟩ := opens_cell h0 (by omega) g0
  obtain ⟨b, q1, v1, z1, r1⟩ := opens_cell h1 (by omega) g1
  obtain ⟨c, q2, v2, z2, r2⟩ := opens_cell h2 (by omega) g2
  obtain ⟨d, q3, v3, z3, r3⟩ := opens_cell h3 (by omega) g3
  refine ⟨(a, b, c, d), ⟨q0, q1, q2, q3⟩, hl, fun i d v p1 p2 => ?_⟩
  match i, p1, p2 with
  | 0, p1, p2 => rw [z0] at p2; simp at p1 p2; subst p1 p2; exact r0
  | 1, p1, p2 => rw [z1] at p2; simp at p1 p2; subst p1 p2; exact r1
  | 2, p1, p2 => rw [z2] at p2; simp at p1 p2; subst p1 p2; exact r2
  | 3, p1, p2 => rw [z3] at p2; simp at p1 p2; subst p1 p2; exact r3
  | n + 4, p1, p2 => simp at p1

end
end Go.Proofs.Ytfllndodnhmhkaa
