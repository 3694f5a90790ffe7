/-
  Numbers' low bits.
-/
import Derived.Test.YtbhjmioegdgpnaaDat
namespace Go.Proofs.Ytbhjmioegdgpnaa
open Go.Ab
set_option linter.unusedSimpArgs false
set_option linter.unusedVariables false

/-- A number's low bits. -/
def lowB (m : Nat) (c : Int) : Nat := (BitVec.ofInt IntKind.i64.bits c &&& BitVec.ofInt IntKind.i64.bits (m : Int)).toNat
theorem lowB_le (m : Nat) (c : Int) (hm : m ≤ 2147483647) : lowB m c ≤ m := by
  rw [lowB, BitVec.toNat_and]
  refine Nat.le_trans Nat.and_le_right ?_
  simp only [BitVec.toNat_ofInt]
  have : ((m : Int) % ((2 ^ IntKind.i64.bits : Nat) : Int)).toNat = m % 2 ^ IntKind.i64.bits := by
    rw [← Int.natCast_emod]; rfl
  rw [this]
  exact Nat.mod_le _ _
theorem lowB_wrap (m : Nat) (c : Int) (hm : m ≤ 2147483647) : IntKind.i64.wrap ((BitVec.ofInt IntKind.i64.bits c &&& BitVec.ofInt IntKind.i64.bits (m : Int)).toNat : Int) = (lowB m c : Int) := by
  have h := lowB_le m c hm
  exact i64_in (by omega) (by unfold lowB at h; omega)
theorem lowW1 (c : Int) : IntKind.i64.wrap ((BitVec.ofInt IntKind.i64.bits c &&& BitVec.ofInt IntKind.i64.bits 1).toNat : Int) = (lowB 1 c : Int) := lowB_wrap 1 c (by decide)
theorem lowW3 (c : Int) : IntKind.i64.wrap ((BitVec.ofInt IntKind.i64.bits c &&& BitVec.ofInt IntKind.i64.bits 3).toNat : Int) = (lowB 3 c : Int) := lowB_wrap 3 c (by decide)
theorem lowW7 (c : Int) : IntKind.i64.wrap ((BitVec.ofInt IntKind.i64.bits c &&& BitVec.ofInt IntKind.i64.bits 7).toNat : Int) = (lowB 7 c : Int) := lowB_wrap 7 c (by decide)
theorem lowW255 (c : Int) : IntKind.i64.wrap ((BitVec.ofInt IntKind.i64.bits c &&& BitVec.ofInt IntKind.i64.bits 255).toNat : Int) = (lowB 255 c : Int) := lowB_wrap 255 c (by decide)
theorem tmodN (a b : Nat) : Int.tmod (a : Int) (b : Int) = ((a % b : Nat) : Int) := rfl

end Go.Proofs.Ytbhjmioegdgpnaa
