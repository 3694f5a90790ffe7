/-
  Plain functions on bits and bytes, and what operations of numbers come to: the data of package crc.
-/
import Derived.Test.YtcfnbofapjgepaaDat
namespace Go.Proofs.Ytcfnbofapjgepaa
open Go.Ab
set_option linter.unusedSimpArgs false
set_option linter.unusedVariables false

theorem u32_not (x : BitVec 32) : IntKind.u32.wrap ((BitVec.ofInt IntKind.u32.bits (if IntKind.u32.signed = true then -1 else IntKind.u32.max) ^^^ BitVec.ofInt IntKind.u32.bits (x.toNat : Int)).toNat : Int) = ((~~~x).toNat : Int) := by
  rw [bv32]
  have h1 : (BitVec.ofInt IntKind.u32.bits (if IntKind.u32.signed = true then -1 else IntKind.u32.max) : BitVec 32) = ~~~0 := by decide
  rw [h1]
  have e : (~~~0 ^^^ x : BitVec 32) = ~~~x := by
    ext i h
    rw [BitVec.getElem_xor, BitVec.getElem_not, BitVec.getElem_not]
    have : (0 : BitVec 32)[i] = false := BitVec.getElem_zero ..
    rw [this]; simp
  exact (congrArg (fun y : BitVec 32 => IntKind.u32.wrap (y.toNat : Int)) e).trans (wrap_bv32 _)

/-- The lowest byte. -/
def byteOf (x : BitVec 32) : UInt8 := UInt8.ofNat x.toNat
theorem byteOf_nat (x : BitVec 32) : (byteOf x).toNat = x.toNat % 256 := by simp [byteOf]
theorem u8_of_u32 (x : BitVec 32) : IntKind.u8.wrap (x.toNat : Int) = ((byteOf x).toNat : Int) := by
  rw [byteOf_nat]; simp [IntKind.wrap, IntKind.bits, IntKind.signed]
theorem u32_shr (x : BitVec 32) (k : Nat) (h : k ≤ 32) : (x.toNat : Int).fdiv (2 ^ (min k IntKind.u32.bits)) = ((x >>> k).toNat : Int) := by
  have : min k IntKind.u32.bits = k := by simp [IntKind.bits]; omega
  rw [this, BitVec.toNat_ushiftRight, Nat.shiftRight_eq_div_pow, Int.fdiv_eq_ediv_of_nonneg _ (by exact Int.le_of_lt (Int.pow_pos (by decide)))]
  simp
theorem u32_shr8 (x : BitVec 32) : (x.toNat : Int).fdiv (2 ^ (min 8 IntKind.u32.bits)) = ((x >>> 8).toNat : Int) := u32_shr x 8 (by decide)
theorem u32_shr16 (x : BitVec 32) : (x.toNat : Int).fdiv (2 ^ (min 16 IntKind.u32.bits)) = ((x >>> 16).toNat : Int) := u32_shr x 16 (by decide)
theorem u32_shr24 (x : BitVec 32) : (x.toNat : Int).fdiv (2 ^ (min 24 IntKind.u32.bits)) = ((x >>> 24).toNat : Int) := u32_shr x 24 (by decide)
theorem u32_shl (x : BitVec 32) (k : Nat) (h : k ≤ 32) : IntKind.u32.wrap ((x.toNat : Int) * 2 ^ (min k IntKind.u32.bits)) = ((x <<< k).toNat : Int) := by
  have : min k IntKind.u32.bits = k := by simp [IntKind.bits]; omega
  rw [this]
  have e : (x.toNat : Int) * 2 ^ k = ((x.toNat * 2 ^ k : Nat) : Int) := by simp
  rw [e, wrap_u32]
  congr 1
  simp [BitVec.toNat_shiftLeft, Nat.shiftLeft_eq]
theorem u32_shl8 (x : BitVec 32) : IntKind.u32.wrap ((x.toNat : Int) * 2 ^ (min 8 IntKind.u32.bits)) = ((x <<< 8).toNat : Int) := u32_shl x 8 (by decide)
theorem u32_shl16 (x : BitVec 32) : IntKind.u32.wrap ((x.toNat : Int) * 2 ^ (min 16 IntKind.u32.bits)) = ((x <<< 16).toNat : Int) := u32_shl x 16 (by decide)
theorem u32_shl24 (x : BitVec 32) : IntKind.u32.wrap ((x.toNat : Int) * 2 ^ (min 24 IntKind.u32.bits)) = ((x <<< 24).toNat : Int) := u32_shl x 24 (by decide)

theorem u32_zero : (((~~~ (0 : BitVec 32)).toNat : Nat) : Int) = 4294967295 := by decide
theorem u32_beq (x y : BitVec 32) : ((x.toNat : Int) == (y.toNat : Int)) = (x == y) := by
  rw [Bool.eq_iff_iff]
  simp only [beq_iff_eq]
  constructor
  · intro h; exact BitVec.eq_of_toNat_eq (by omega)
  · rintro rfl; rfl
theorem u32_bne (x y : BitVec 32) : ((x.toNat : Int) != (y.toNat : Int)) = (x != y) := by
  simp only [bne, u32_beq]

/-! ### a number's bytes -/
def put4 (n : BitVec 32) : List UInt8 := [byteOf n, byteOf (n >>> 8), byteOf (n >>> 16), byteOf (n >>> 24)]
theorem put4_rows (n : BitVec 32) : [[u8 (byteOf n)], [u8 (byteOf (n >>> 8))], [u8 (byteOf (n >>> 16))], [u8 (byteOf (n >>> 24))]] = bys (put4 n) := rfl
theorem put4_ne (n : BitVec 32) : (bys (put4 n) = []) = False := by simp [put4, bys]
theorem put4_take (n : BitVec 32) : List.take 4 (put4 n) = put4 n := rfl
theorem put4_nil (n : BitVec 32) : (put4 n = []) = False := by simp [put4]
theorem put4_len (n : BitVec 32) : (put4 n).length = 4 := rfl
def ext8 (b : UInt8) : BitVec 32 := BitVec.ofNat 32 b.toNat
theorem ext8_of (b : UInt8) : IntKind.u32.wrap (b.toNat : Int) = ((ext8 b).toNat : Int) := u32_of_u8 b
def get4 (l : List UInt8) (i : Nat) : BitVec 32 := ext8 (l.getD i 0) ||| (ext8 (l.getD (i + 1) 0) <<< 8) ||| (ext8 (l.getD (i + 2) 0) <<< 16) ||| (ext8 (l.getD (i + 3) 0) <<< 24)

theorem crcFold_append (s : BitVec 32) (l m : List UInt8) : crcFold s (l ++ m) = crcFold (crcFold s l) m := by
  induction l generalizing s with
  | nil => rfl
  | cons b l ih => simp [crcFold, ih]
theorem crcFold_take {s : BitVec 32} {l : List UInt8} {k : Nat} (h : k < l.length) : crcFold s (l.take (k + 1)) = crcAdd (crcFold s (l.take k)) (l.getD k 0) := by
  have e : l[k]? = some (l.getD k 0) := by simp [List.getD, List.getElem?_eq_getElem h]
  rw [List.take_add_one, e, crcFold_append]
  rfl

end Go.Proofs.Ytcfnbofapjgepaa
