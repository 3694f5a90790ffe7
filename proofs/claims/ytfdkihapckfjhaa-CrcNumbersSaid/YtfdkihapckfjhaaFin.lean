/-
  What laws are handed, as plain data; from a law's contract to its walk.
-/
import Derived.Test.YtfdkihapckfjhaaDat
import Derived.Test.YtfdkihapckfjhaaAb15
namespace Go.Proofs.Ytfdkihapckfjhaa
open Go.Ab
set_option linter.unusedSimpArgs false
set_option linter.unusedVariables false

/-- A law's contract, walked: it returns true, and nothing that was there is written. -/
theorem law_walk {P : Program} {f : FuncId} {ds : List D} {W : World} {vs : List Value} (h : Contract P f ds (.v (.bool true)) []) (hv : RepL (immOf W) noLocs ds vs) :
    Calls P f vs.toArray W fun e w' => e = .returned (.bool true) ∧ RowKit.Below W.heap.size W w' := by
  refine (h W (immOf W) vs (immOk_of W) hv).mono fun e w' ⟨v, ρ', I', he, _, _, hr, _, _, hx, _⟩ => ?_
  have := rep_v_inv hr
  subst this
  exact ⟨he, hx.below⟩

section
variable {P : Program}

theorem opens_i64 {t : TypeId} (h : P.underlying t = some (.int .i64)) : Opens P t (fun n : Int => [i64 n]) (fun n => -9223372036854775808 ≤ n ∧ n ≤ 9223372036854775807) :=
  opens_map (opens_int h) fun n hn => ⟨n, by simp [Lit.wf, IntKind.min, IntKind.max, IntKind.signed, IntKind.bits] at hn; omega, rfl⟩
theorem opens_u32 {t : TypeId} (h : P.underlying t = some (.int .u32)) : Opens P t (fun x : BitVec 32 => [u32 x]) (fun _ => True) :=
  opens_map (opens_int h) fun n hn => ⟨BitVec.ofInt 32 n, trivial, by
    simp [Lit.wf, IntKind.min, IntKind.max, IntKind.signed, IntKind.bits] at hn
    have : ((BitVec.ofInt 32 n).toNat : Int) = n := by
      rw [BitVec.toNat_ofInt]; omega
    simp only [u32, this]⟩
theorem opens_u8 {t : TypeId} (h : P.underlying t = some (.int .u8)) : Opens P t (fun x : UInt8 => [u8 x]) (fun _ => True) :=
  opens_map (opens_int h) fun n hn => ⟨UInt8.ofNat n.toNat, trivial, by
    simp [Lit.wf, IntKind.min, IntKind.max, IntKind.signed, IntKind.bits] at hn
    have : (((UInt8.ofNat n.toNat).toNat : Nat) : Int) = n := by
      have : (UInt8.ofNat n.toNat).toNat = n.toNat % 256 := by simp
      omega
    simp only [u8, this]⟩
theorem opens_bytes {t e : TypeId} (ht : P.underlying t = some (.slice e)) (he : P.underlying e = some (.int .u8)) (hc : P.cellsOf e = 1) : Opens P t (fun l : List UInt8 => [.sl false (bys l)]) (fun l => l.length ≤ 9223372036854775807) :=
  opens_map (opens_slice ht (opens_u8 he) (fun _ => hc.symm) (by omega)) fun l hl => ⟨l, hl.1, rfl⟩
theorem opens_ints {t e : TypeId} (ht : P.underlying t = some (.slice e)) (he : P.underlying e = some (.int .i64)) (hc : P.cellsOf e = 1) : Opens P t (fun l : List Int => [.sl false (ints l)]) (fun l => l.length ≤ 9223372036854775807 ∧ ∀ n ∈ l, -9223372036854775808 ≤ n ∧ n ≤ 9223372036854775807) :=
  opens_map (opens_slice ht (opens_i64 he) (fun _ => hc.symm) (by omega)) fun l hl => ⟨l, hl, rfl⟩

end
end Go.Proofs.Ytfdkihapckfjhaa
