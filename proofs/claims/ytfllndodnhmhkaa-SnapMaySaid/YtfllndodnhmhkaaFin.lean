/-
  What laws are handed, as plain data; from a law's contract to its walk.
-/
import Derived.Test.YtfllndodnhmhkaaDat
import Derived.Test.YtfllndodnhmhkaaAb15
namespace Go.Proofs.Ytfllndodnhmhkaa
open Go.Ab
set_option linter.unusedSimpArgs false
set_option linter.unusedVariables false

/-- A law's contract, walked: it returns true, and nothing that was there is written. -/
theorem law_walk {P : Program} {f : FuncId} {ds : List D} {W : World} {vs : List Value} (h : Contract P f ds (.v (.bool true)) []) (hv : RepL (immOf W) noLocs ds vs) :
    Calls P f vs.toArray W fun e w' => e = .returned (.bool true) ∧ RowKit.Below W.heap.size W w' := by
  refine (h W (immOf W) vs (immOk_of W) hv).mono fun e w' ⟨v, ρ', I', he, _, _, hr, _, _, hx, _⟩ => ?_
  have := rep_v_inv hr
  subst this
  exact ⟨he, hx.below⟩

section
variable {P : Program}

theorem opens_i64 {t : TypeId} (h : P.underlying t = some (.int .i64)) : Opens P t (fun n : Int => [i64 n]) (fun n => -9223372036854775808 ≤ n ∧ n ≤ 9223372036854775807) :=
  opens_map (opens_int h) fun n hn => ⟨n, by simp [Lit.wf, IntKind.min, IntKind.max, IntKind.signed, IntKind.bits] at hn; omega, rfl⟩
theorem opens_u32 {t : TypeId} (h : P.underlying t = some (.int .u32)) : Opens P t (fun x : BitVec 32 => [u32 x]) (fun _ => True) :=
  opens_map (opens_int h) fun n hn => ⟨BitVec.ofInt 32 n, trivial, by
    simp [Lit.wf, IntKind.min, IntKind.max, IntKind.signed, IntKind.bits] at hn
    have : ((BitVec.ofInt 32 n).toNat : Int) = n := by
      rw [BitVec.toNat_ofInt]; omega
    simp only [u32, this]⟩
theorem opens_u8 {t : TypeId} (h : P.underlying t = some (.int .u8)) : Opens P t (fun x : UInt8 => [u8 x]) (fun _ => True) :=
  opens_map (opens_int h) fun n hn => ⟨UInt8.ofNat n.toNat, trivial, by
    simp [Lit.wf, IntKind.min, IntKind.max, IntKind.signed, IntKind.bits] at hn
    have : (((UInt8.ofNat n.toNat).toNat : Nat) : Int) = n := by
      have : (UInt8.ofNat n.toNat).toNat = n.toNat % 256 := by simp
      omega
    simp only [u8, this]⟩
theorem opens_bytes {t e : TypeId} (ht : P.underlying t = some (.slice e)) (he : P.underlying e = some (.int .u8)) (hc : P.cellsOf e = 1) : Opens P t (fun l : List UInt8 => [.sl false (bys l)]) (fun l => l.length ≤ 9223372036854775807) :=
  opens_map (opens_slice ht (opens_u8 he) (fun _ => hc.symm) (by omega)) fun l hl => ⟨l, hl.1, rfl⟩
theorem opens_ints {t e : TypeId} (ht : P.underlying t = some (.slice e)) (he : P.underlying e = some (.int .i64)) (hc : P.cellsOf e = 1) : Opens P t (fun l : List Int => [.sl false (ints l)]) (fun l => l.length ≤ 9223372036854775807 ∧ ∀ n ∈ l, -9223372036854775808 ≤ n ∧ n ≤ 9223372036854775807) :=
  opens_map (opens_slice ht (opens_i64 he) (fun _ => hc.symm) (by omega)) fun l hl => ⟨l, hl, rfl⟩

/-- Four in a row. -/
theorem opens_arr4 {t e : TypeId} {α : Type} {enc : α → D} {ok : α → Prop} (ht : P.underlying t = some (.array 4 e)) (hc : P.cellsOf e = 1) (hct : P.cellsOf t = 4) (he : Opens P e (fun a => [enc a]) ok) :
    Opens P t (fun a : α × α × α × α => [enc a.1, enc a.2.1, enc a.2.2.1, enc a.2.2.2]) (fun a => ok a.1 ∧ ok a.2.1 ∧ ok a.2.2.1 ∧ ok a.2.2.2) := by
  intro H encH w fuel cs x hx
  obtain ⟨xs, m, rfl, rfl, hl, hlen, h⟩ := DataW.trod_array ht hx
  rw [hct] at hl
  have key : ∀ i, i < 4 → ∃ a, ok a ∧ ∃ v, cs[i]? = some v ∧ Rep (immOf w) noLocs (enc a) v ∧ v.oneCell' = true := by
    intro i hi
    have h1 := h i hi
    rw [hc, Nat.mul_one, List.getElem?_eq_getElem (by omega)] at h1
    obtain ⟨a, g1, g2, g3⟩ := he H encH w m _ _ h1
    have hv : cs[i]? = some (cs[i]'(by omega)) := List.getElem?_eq_getElem (by omega)
    have h2 : ((cs.drop i).take 1)[0]? = some (cs[i]'(by omega)) := by
      rw [List.getElem?_take, if_pos (by decide), List.getElem?_drop]
      exact hv
    have := g3 0 (enc a) _ rfl h2
    exact ⟨a, g1, _, hv, this.1, this.2⟩
  obtain ⟨a0, o0, v0, e0, r0⟩ := key 0 (by omega)
  obtain ⟨a1, o1, v1, e1, r1⟩ := key 1 (by omega)
  obtain ⟨a2, o2, v2, e2, r2⟩ := key 2 (by omega)
  obtain ⟨a3, o3, v3, e3, r3⟩ := key 3 (by omega)
  refine ⟨(a0, a1, a2, a3), ⟨o0, o1, o2, o3⟩, hl, fun i d v q1 q2 => ?_⟩
  match i, q1, q2 with
  | 0, q1, q2 => rw [e0] at q2; simp at q1 q2; subst q1 q2; exact r0
  | 1, q1, q2 => rw [e1] at q2; simp at q1 q2; subst q1 q2; exact r1
  | 2, q1, q2 => rw [e2] at q2; simp at q1 q2; subst q1 q2; exact r2
  | 3, q1, q2 => rw [e3] at q2; simp at q1 q2; subst q1 q2; exact r3
  | n + 4, q1, q2 => simp at q1

end
end Go.Proofs.Ytfllndodnhmhkaa
