/-
  What laws are handed, as plain data; from a law's contract to its walk.
-/
import Derived.Test.YtcfnbofapjgepaaDat
import Derived.Test.YtcfnbofapjgepaaAbD
namespace Go.Proofs.Ytcfnbofapjgepaa
open Go.Ab
set_option linter.unusedSimpArgs false
set_option linter.unusedVariables false

/-- A law's contract, walked: it returns true, and nothing that was there is written. -/
theorem law_walk {P : Program} {f : FuncId} {ds : List D} {W : World} {vs : List Value} (h : Contract P f ds (.v (.bool true)) []) (hv : RepL (immOf W) noLocs ds vs) :
    Calls P f vs.toArray W fun e w' => e = .returned (.bool true) ∧ RowKit.Below W.heap.size W w' := by
  refine (h W (immOf W) vs (immOk_of W) hv).mono fun e w' ⟨v, ρ', I', he, _, _, hr, _, _, hx, _⟩ => ?_
  have := rep_v_inv hr
  subst this
  exact ⟨he, hx.below⟩

section
variable {P : Program}

theorem opens_i64 {t : TypeId} (h : P.underlying t = some (.int .i64)) : Opens P t (fun n : Int => [i64 n]) (fun n => -9223372036854775808 ≤ n ∧ n ≤ 9223372036854775807) :=
  opens_map (opens_int h) fun n hn => ⟨n, by simp [Lit.wf, IntKind.min, IntKind.max, IntKind.signed, IntKind.bits] at hn; omega, rfl⟩
theorem opens_u32 {t : TypeId} (h : P.underlying t = some (.int .u32)) : Opens P t (fun x : BitVec 32 => [u32 x]) (fun _ => True) :=
  opens_map (opens_int h) fun n hn => ⟨BitVec.ofInt 32 n, trivial, by
    simp [Lit.wf, IntKind.min, IntKind.max, IntKind.signed, IntKind.bits] at hn
    have : ((BitVec.ofInt 32 n).toNat : Int) = n := by
      rw [BitVec.toNat_ofInt]; omega
    simp only [u32, this]⟩
theorem opens_u8 {t : TypeId} (h : P.underlying t = some (.int .u8)) : Opens P t (fun x : UInt8 => [u8 x]) (fun _ => True) :=
  opens_map (opens_int h) fun n hn => ⟨UInt8.ofNat n.toNat, trivial, by
    simp [Lit.wf, IntKind.min, IntKind.max, IntKind.signed, IntKind.bits] at hn
    have : (((UInt8.ofNat n.toNat).toNat : Nat) : Int) = n := by
      have : (UInt8.ofNat n.toNat).toNat = n.toNat % 256 := by simp
      omega
    simp only [u8, this]⟩
theorem opens_bytes {t e : TypeId} (ht : P.underlying t = some (.slice e)) (he : P.underlying e = some (.int .u8)) (hc : P.cellsOf e = 1) : Opens P t (fun l : List UInt8 => [.sl false (bys l)]) (fun l => l.length ≤ 9223372036854775807) :=
  opens_map (opens_slice ht (opens_u8 he) (fun _ => hc.symm) (by omega)) fun l hl => ⟨l, hl.1, rfl⟩
theorem opens_ints {t e : TypeId} (ht : P.underlying t = some (.slice e)) (he : P.underlying e = some (.int .i64)) (hc : P.cellsOf e = 1) : Opens P t (fun l : List Int => [.sl false (ints l)]) (fun l => l.length ≤ 9223372036854775807 ∧ ∀ n ∈ l, -9223372036854775808 ≤ n ∧ n ≤ 9223372036854775807) :=
  opens_map (opens_slice ht (opens_i64 he) (fun _ => hc.symm) (by omega)) fun l hl => ⟨l, hl, rfl⟩

/-- Four in a row. -/
theorem opens_arr4 {t e : TypeId} {α : Type} {enc : α → D} {ok : α → Prop} (ht : P.underlying t = some (.array 4 e)) (hc : P.cellsOf e = 1) (hct : P.cellsOf t = 4) (he : Opens P e (fun a => [enc a]) ok) :
    Opens P t (fun a : α × α × α × α => [enc a.1, enc a.2.1, enc a.2.2.1, enc a.2.2.2]) (fun a => ok a.1 ∧ ok a.2.1 ∧ ok a.2.2.1 ∧ ok a.2.2.2) := by
  intro H encH w fuel cs x hx
  obtain ⟨xs, m, rfl, rfl, hl, hlen, h⟩ := DataW.trod_array ht hx
  rw [hct] at hl
  have key : ∀ i, i < 4 → ∃ a, ok a ∧ ∃ v, cs[i]? = some v ∧ Rep (immOf w) noLocs (enc a) v ∧ v.oneCell' = true := by
    intro i hi
    have h1 := h i hi
    rw [hc, Nat.mul_one, List.getElem?_eq_getElem (by omega)] at h1
    obtain ⟨a, g1, g2, g3⟩ := he H encH w m _ _ h1
    have hv : cs[i]? = some (cs[i]'(by omega)) := List.getElem?_eq_getElem (by omega)
    have h2 : ((cs.drop i).take 1)[0]? = some (cs[i]'(by omega)) := by
      rw [List.getElem?_take, if_pos (by decide), List.getElem?_drop]
      exact hv
    have := g3 0 (enc a) _ rfl h2
    exact ⟨a, g1, _, hv, this.1, this.2⟩
  obtain ⟨a0, o0, v0, e0, r0⟩ := key 0 (by omega)
  obtain ⟨a1, o1, v1, e1, r1⟩ := key 1 (by omega)
  obtain ⟨a2, o2, v2, e2, r2⟩ := key 2 (by omega)
  obtain ⟨a3, o3, v3, e3, r3⟩ := key 3 (by omega)
  refine ⟨(a0, a1, a2, a3), ⟨o0, o1, o2, o3⟩, hl, fun i d v q1 q2 => ?_⟩
  match i, q1, q2 with
  | 0, q1, q2 => rw [e0] at q2; simp at q1 q2; subst q1 q2; exact r0
  | 1, q1, q2 => rw [e1] at q2; simp at q1 q2; subst q1 q2; exact r1
  | 2, q1, q2 => rw [e2] at q2; simp at q1 q2; subst q1 q2; exact r2
  | 3, q1, q2 => rw [e3] at q2; simp at q1 q2; subst q1 q2; exact r3
  | n + 4, q1, q2 => simp at q1

end

section
variable {P : Program}

theorem opens_cell {t : TypeId} {α : Type} {enc : α → D} {ok : α → Prop} (h : Opens P t (fun a => [enc a]) ok) {H : Type} {encH : TypeId × Value → H} {w : World} {fuel : Nat} {cs : List Value} {off : Nat} {y : DataW H × List MemPlace}
    (hl : off < cs.length) (hx : DataW.trod encH P w 0 (fun _ => true) true fuel t ((cs.drop off).take 1) = some y) : ∃ a, ok a ∧ ∃ v, cs[off]? = some v ∧ Rep (immOf w) noLocs (enc a) v ∧ v.oneCell' = true := by
  obtain ⟨a, g1, g2, g3⟩ := h H encH w fuel _ _ hx
  have hv : cs[off]? = some (cs[off]'hl) := List.getElem?_eq_getElem hl
  have h2 : ((cs.drop off).take 1)[0]? = some (cs[off]'hl) := by
    rw [List.getElem?_take, if_pos (by decide), List.getElem?_drop]
    exact hv
  have := g3 0 (enc a) _ rfl h2
  exact ⟨a, g1, _, hv, this.1, this.2⟩

/-- Three fields of one cell each. -/
theorem opens_struct3 {t : TypeId} {f0 f1 f2 : Field} {α β γ : Type} {e0 : α → D} {e1 : β → D} {e2 : γ → D} {k0 : α → Prop} {k1 : β → Prop} {k2 : γ → Prop} (ht : P.underlying t = some (.struct #[f0, f1, f2])) (hct : P.cellsOf t = 3)
    (o0 : f0.offset = 0) (o1 : f1.offset = 1) (o2 : f2.offset = 2) (c0 : P.cellsOf f0.type = 1) (c1 : P.cellsOf f1.type = 1) (c2 : P.cellsOf f2.type = 1)
    (h0 : Opens P f0.type (fun a => [e0 a]) k0) (h1 : Opens P f1.type (fun a => [e1 a]) k1) (h2 : Opens P f2.type (fun a => [e2 a]) k2) :
    Opens P t (fun x : α × β × γ => [e0 x.1, e1 x.2.1, e2 x.2.2]) (fun x => k0 x.1 ∧ k1 x.2.1 ∧ k2 x.2.2) := by
  intro H encH w fuel cs x hx
  obtain ⟨xs, n, _, rfl, hl, hlen, hf⟩ := DataW.trod_struct ht hx
  rw [hct] at hl
  have g0 := hf 0 f0 rfl
  have g1 := hf 1 f1 rfl
  have g2 := hf 2 f2 rfl
  rw [o0, c0] at g0
  rw [o1, c1] at g1
  rw [o2, c2] at g2
  rw [List.getElem?_eq_getElem (by rw [hlen]; simp)] at g0 g1 g2
  obtain ⟨a, q0, v0, z0, r0⟩ := opens_cell h0 (by omega) g0
  obtain ⟨b, q1, v1, z1, r1⟩ := opens_cell h1 (by omega) g1
  obtain ⟨c, q2, v2, z2, r2⟩ := opens_cell h2 (by omega) g2
  refine ⟨(a, b, c), ⟨q0, q1, q2⟩, hl, fun i d v p1 p2 => ?_⟩
  match i, p1, p2 with
  | 0, p1, p2 => rw [z0] at p2; simp at p1 p2; subst p1 p2; exact r0
  | 1, p1, p2 => rw [z1] at p2; simp at p1 p2; subst p1 p2; exact r1
  | 2, p1, p2 => rw [z2] at p2; simp at p1 p2; subst p1 p2; exact r2
  | n + 3, p1, p2 => simp at p1

/-- So many in a row, of one cell each. -/
theorem opens_arr {t e : TypeId} {n : Nat} {α : Type} {enc : α → D} {ok : α → Prop} (ht : P.underlying t = some (.array n e)) (hc : P.cellsOf e = 1) (hct : P.cellsOf t = n) (he : Opens P e (fun a => [enc a]) ok) :
    Opens P t (fun l : List α => l.map enc) (fun l => l.length = n ∧ ∀ a ∈ l, ok a) := by
  intro H encH w fuel cs x hx
  obtain ⟨xs, m, rfl, rfl, hl, hlen, h⟩ := DataW.trod_array ht hx
  rw [hct] at hl
  have key : ∀ i, i < n → ∃ a, ok a ∧ ∃ v, cs[i]? = some v ∧ Rep (immOf w) noLocs (enc a) v ∧ v.oneCell' = true := by
    intro i hi
    have h1 := h i hi
    rw [hc, Nat.mul_one, List.getElem?_eq_getElem (by omega)] at h1
    exact opens_cell he (by omega) h1
  obtain ⟨l, hll, hlp⟩ := choose_list key
  refine ⟨l, ⟨hll, fun a ha => ?_⟩, by simp; omega, fun i d v q1 q2 => ?_⟩
  · obtain ⟨i, hi⟩ := List.getElem?_of_mem ha
    exact (hlp i a hi).1
  · rw [List.getElem?_map] at q1
    cases hq : l[i]? with
    | none => simp [hq] at q1
    | some a =>
      simp [hq] at q1
      subst q1
      obtain ⟨_, v', hv', r⟩ := hlp i a hq
      rw [hv'] at q2; cases q2
      exact r

theorem opens_arr2i {t e : TypeId} (ht : P.underlying t = some (.array 2 e)) (hc : P.cellsOf e = 1) (hct : P.cellsOf t = 2) (he : P.underlying e = some (.int .i64)) :
    Opens P t (fun x : Int × Int => [i64 x.1, i64 x.2]) (fun x => (-9223372036854775808 ≤ x.1 ∧ x.1 ≤ 9223372036854775807) ∧ (-9223372036854775808 ≤ x.2 ∧ x.2 ≤ 9223372036854775807)) :=
  opens_map (opens_arr ht hc hct (opens_i64 he)) fun l hl => by
    obtain ⟨h1, h2⟩ := hl
    match l, h1 with
    | [a, b], _ => exact ⟨(a, b), ⟨h2 a (by simp), h2 b (by simp)⟩, rfl⟩
theorem opens_arr3i {t e : TypeId} (ht : P.underlying t = some (.array 3 e)) (hc : P.cellsOf e = 1) (hct : P.cellsOf t = 3) (he : P.underlying e = some (.int .i64)) :
    Opens P t (fun x : Int × Int × Int => [i64 x.1, i64 x.2.1, i64 x.2.2]) (fun x => (-9223372036854775808 ≤ x.1 ∧ x.1 ≤ 9223372036854775807) ∧ (-9223372036854775808 ≤ x.2.1 ∧ x.2.1 ≤ 9223372036854775807) ∧ (-9223372036854775808 ≤ x.2.2 ∧ x.2.2 ≤ 9223372036854775807)) :=
  opens_map (opens_arr ht hc hct (opens_i64 he)) fun l hl => by
    obtain ⟨h1, h2⟩ := hl
    match l, h1 with
    | [a, b, c], _ => exact ⟨(a, b, c), ⟨h2 a (by simp), h2 b (by simp), h2 c (by simp)⟩, rfl⟩

theorem opens_arr4i {t e : TypeId} (ht : P.underlying t = some (.array 4 e)) (hc : P.cellsOf e = 1) (hct : P.cellsOf t = 4) (he : P.underlying e = some (.int .i64)) :
    Opens P t (fun x : Int × Int × Int × Int => [i64 x.1, i64 x.2.1, i64 x.2.2.1, i64 x.2.2.2]) (fun _ => True) :=
  opens_map (opens_arr ht hc hct (opens_i64 he)) fun l hl => by
    obtain ⟨h1, h2⟩ := hl
    match l, h1 with
    | [a, b, c, d], _ => exact ⟨(a, b, c, d), trivial, rfl⟩

end

section
variable {P : Program}

theorem opens_struct2 {t : TypeId} {f0 f1 : Field} {α β : Type} {e0 : α → D} {e1 : β → D} {k0 : α → Prop} {k1 : β → Prop} (ht : P.underlying t = some (.struct #[f0, f1])) (hct : P.cellsOf t = 2)
    (o0 : f0.offset = 0) (o1 : f1.offset = 1) (c0 : P.cellsOf f0.type = 1) (c1 : P.cellsOf f1.type = 1)
    (h0 : Opens P f0.type (fun a => [e0 a]) k0) (h1 : Opens P f1.type (fun a => [e1 a]) k1) :
    Opens P t (fun x : α × β => [e0 x.1, e1 x.2]) (fun x => k0 x.1 ∧ k1 x.2) := by
  intro H encH w fuel cs x hx
  obtain ⟨xs, n, _, rfl, hl, hlen, hf⟩ := DataW.trod_struct ht hx
  rw [hct] at hl
  have g0 := hf 0 f0 rfl
  have g1 := hf 1 f1 rfl
  rw [o0, c0] at g0
  rw [o1, c1] at g1
  rw [List.getElem?_eq_getElem (by rw [hlen]; simp)] at g0 g1
  obtain ⟨a, q0, v0, z0, r0⟩ := opens_cell h0 (by omega) g0
  obtain ⟨b, q1, v1, z1, r1⟩ := opens_cell h1 (by omega) g1
  refine ⟨(a, b), ⟨q0, q1⟩, hl, fun i d v p1 p2 => ?_⟩
  match i, p1, p2 with
  | 0, p1, p2 => rw [z0] at p2; simp at p1 p2; subst p1 p2; exact r0
  | 1, p1, p2 => rw [z1] at p2; simp at p1 p2; subst p1 p2; exact r1
  | n + 2, p1, p2 => simp at p1

theorem opens_struct4 {t : TypeId} {f0 f1 f2 f3 : Field} {α β γ δ : Type} {e0 : α → D} {e1 : β → D} {e2 : γ → D} {e3 : δ → D} {k0 : α → Prop} {k1 : β → Prop} {k2 : γ → Prop} {k3 : δ → Prop} (ht : P.underlying t = some (.struct #[f0, f1, f2, f3])) (hct : P.cellsOf t = 4)
    (o0 : f0.offset = 0) (o1 : f1.offset = 1) (o2 : f2.offset = 2) (o3 : f3.offset = 3) (c0 : P.cellsOf f0.type = 1) (c1 : P.cellsOf f1.type = 1) (c2 : P.cellsOf f2.type = 1) (c3 : P.cellsOf f3.type = 1)
    (h0 : Opens P f0.type (fun a => [e0 a]) k0) (h1 : Opens P f1.type (fun a => [e1 a]) k1) (h2 : Opens P f2.type (fun a => [e2 a]) k2) (h3 : Opens P f3.type (fun a => [e3 a]) k3) :
    Opens P t (fun x : α × β × γ × δ => [e0 x.1, e1 x.2.1, e2 x.2.2.1, e3 x.2.2.2]) (fun x => k0 x.1 ∧ k1 x.2.1 ∧ k2 x.2.2.1 ∧ k3 x.2.2.2) := by
  intro H encH w fuel cs x hx
  obtain ⟨xs, n, _, rfl, hl, hlen, hf⟩ := DataW.trod_struct ht hx
  rw [hct] at hl
  have g0 := hf 0 f0 rfl
  have g1 := hf 1 f1 rfl
  have g2 := hf 2 f2 rfl
  have g3 := hf 3 f3 rfl
  rw [o0, c0] at g0
  rw [o1, c1] at g1
  rw [o2, c2] at g2
  rw [o3, c3] at g3
  rw [List.getElem?_eq_getElem (by rw [hlen]; simp)] at g0 g1 g2 g3
  obtain ⟨a, q0, v0, z0, r0⟩ := opens_cell h0 (by omega) g0
  obtain ⟨b, q1, v1, z1, r1⟩ := opens_cell h1 (by omega) g1
  obtain ⟨c, q2, v2, z2, r2⟩ := opens_cell h2 (by omega) g2
  obtain ⟨d, q3, v3, z3, r3⟩ := opens_cell h3 (by omega) g3
  refine ⟨(a, b, c, d), ⟨q0, q1, q2, q3⟩, hl, fun i d v p1 p2 => ?_⟩
  match i, p1, p2 with
  | 0, p1, p2 => rw [z0] at p2; simp at p1 p2; subst p1 p2; exact r0
  | 1, p1, p2 => rw [z1] at p2; simp at p1 p2; subst p1 p2; exact r1
  | 2, p1, p2 => rw [z2] at p2; simp at p1 p2; subst p1 p2; exact r2
  | 3, p1, p2 => rw [z3] at p2; simp at p1 p2; subst p1 p2; exact r3
  | n + 4, p1, p2 => simp at p1

end
end Go.Proofs.Ytcfnbofapjgepaa
