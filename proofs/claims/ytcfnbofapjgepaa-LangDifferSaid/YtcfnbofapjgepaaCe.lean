/-
  Plain facts on sums: what is put is got; the sums' laws.
-/
import Derived.Test.YtcfnbofapjgepaaCd
namespace Go.Proofs.Ytcfnbofapjgepaa
open Go.Ab
set_option linter.unusedSimpArgs false
set_option linter.unusedVariables false

theorem ext8_bit (x : BitVec 32) (i : Nat) : (ext8 (byteOf x)).getLsbD i = (decide (i < 8) && x.getLsbD i) := by
  unfold ext8
  rw [byteOf_nat, BitVec.getLsbD_ofNat]
  have : (x.toNat % 256).testBit i = (decide (i < 8) && x.toNat.testBit i) := by
    have := Nat.testBit_mod_two_pow x.toNat 8 i
    simpa using this
  rw [this]
  by_cases h : i < 8
  · have : i < 32 := by omega
    simp [h, this, BitVec.getLsbD]
  · simp [h]

theorem get4_put4 (n : BitVec 32) : ext8 (byteOf n) ||| (ext8 (byteOf (n >>> 8)) <<< 8) ||| (ext8 (byteOf (n >>> 16)) <<< 16) ||| (ext8 (byteOf (n >>> 24)) <<< 24) = n := by
  apply BitVec.eq_of_getLsbD_eq
  intro i hi
  simp only [BitVec.getLsbD_or, BitVec.getLsbD_shiftLeft, ext8_bit, BitVec.getLsbD_ushiftRight]
  by_cases h1 : i < 8
  · have a : i < 16 := by omega
    have b : i < 24 := by omega
    simp [h1, a, b]
  · by_cases h2 : i < 16
    · have a : i - 8 < 8 := by omega
      have b : i < 24 := by omega
      have c : 8 + (i - 8) = i := by omega
      simp [h1, h2, a, b, c, hi]
    · by_cases h3 : i < 24
      · have a : ¬ i - 8 < 8 := by omega
        have b : i - 16 < 8 := by omega
        have c : 16 + (i - 16) = i := by omega
        simp [h1, h2, h3, a, b, c, hi]
      · have a : ¬ i - 8 < 8 := by omega
        have a2 : ¬ i - 16 < 8 := by omega
        have b : i - 24 < 8 := by omega
        have c : 24 + (i - 24) = i := by omega
        simp [h1, h2, h3, a, a2, b, c, hi]

theorem get4_app (l : List UInt8) (n : BitVec 32) : get4 (l ++ put4 n) l.length = n := by
  have e : ∀ j, (l ++ put4 n).getD (l.length + j) 0 = (put4 n).getD j 0 := fun j => by
    simp [List.getD, List.getElem?_append_right]
  have e0 := e 0
  rw [Nat.add_zero] at e0
  unfold get4
  rw [e0, e 1, e 2, e 3]
  exact get4_put4 n

theorem u32_rem2 (x : BitVec 32) : (((x.toNat : Int).tmod 2) == 1) = decide (x &&& 1 = 1) := by
  have h1 : (x &&& 1).toNat = x.toNat % 2 := by
    rw [BitVec.toNat_and]
    show x.toNat &&& 1 = _
    exact Nat.and_one_is_mod _
  have h2 : (x.toNat : Int).tmod 2 = ((x.toNat % 2 : Nat) : Int) := by rw [Int.tmod_eq_emod_of_nonneg (by omega)]; omega
  rw [h2, Bool.eq_iff_iff]
  simp only [beq_iff_eq, decide_eq_true_eq]
  constructor
  · intro h
    apply BitVec.eq_of_toNat_eq
    rw [h1]
    have : x.toNat % 2 = 1 := by omega
    rw [this]; rfl
  · intro h
    rw [← h1, h]; rfl
theorem u32_half (x : BitVec 32) : IntKind.u32.wrap ((x.toNat : Int).tdiv 2) = ((x >>> 1).toNat : Int) := by
  have h : (x.toNat : Int).tdiv 2 = ((x >>> 1).toNat : Int) := by
    rw [BitVec.toNat_ushiftRight, Nat.shiftRight_eq_div_pow, Int.tdiv_eq_ediv_of_nonneg (by omega)]; omega
  rw [h, wrap_bv32]
theorem u32_subFrom (x : BitVec 32) : IntKind.u32.wrap (4294967295 - (x.toNat : Int)) = ((~~~x).toNat : Int) := by
  have h : (4294967295 - (x.toNat : Int)) = ((~~~x).toNat : Int) := by
    rw [BitVec.toNat_not]
    have := x.isLt
    omega
  rw [h, wrap_bv32]

theorem crcSteps_odd {k : Nat} {s : BitVec 32} (h : crcSteps k s &&& 1 = 1) : crcSteps (k + 1) s = (crcSteps k s >>> 1) ^^^ 3988292384 := by
  simp only [crcSteps, crcStep, if_pos h]
theorem crcSteps_even {k : Nat} {s : BitVec 32} (h : ¬ crcSteps k s &&& 1 = 1) : crcSteps (k + 1) s = (crcSteps k s >>> 1) := by
  simp only [crcSteps, crcStep, if_neg h]

theorem crcAdd_flip (s : BitVec 32) : crcAdd s 0 = crcAdd (s ^^^ 1) 1 := by
  unfold crcAdd
  have e : s ^^^ BitVec.ofNat 32 (UInt8.toNat 0) = s ^^^ 1 ^^^ BitVec.ofNat 32 (UInt8.toNat 1) := by
    have : BitVec.ofNat 32 (UInt8.toNat 1) = 1 := rfl
    rw [this, BitVec.xor_assoc, BitVec.xor_self]
    rfl
  rw [e]

theorem u32_add (x y : BitVec 32) : IntKind.u32.wrap ((x.toNat : Int) + (y.toNat : Int)) = ((x + y).toNat : Int) := by
  have e : (x.toNat : Int) + (y.toNat : Int) = ((x.toNat + y.toNat : Nat) : Int) := by omega
  rw [e, wrap_u32]
  congr 1
theorem u32_mul256 (x : BitVec 32) : IntKind.u32.wrap (256 * (x.toNat : Int)) = ((256#32 * x).toNat : Int) := by
  have e : 256 * (x.toNat : Int) = ((256 * x.toNat : Nat) : Int) := by omega
  rw [e, wrap_u32]
  congr 1
theorem u32_mul65536 (x : BitVec 32) : IntKind.u32.wrap (65536 * (x.toNat : Int)) = ((65536#32 * x).toNat : Int) := by
  have e : 65536 * (x.toNat : Int) = ((65536 * x.toNat : Nat) : Int) := by omega
  rw [e, wrap_u32]
  congr 1
theorem u32_mul16777216 (x : BitVec 32) : IntKind.u32.wrap (16777216 * (x.toNat : Int)) = ((16777216#32 * x).toNat : Int) := by
  have e : 16777216 * (x.toNat : Int) = ((16777216 * x.toNat : Nat) : Int) := by omega
  rw [e, wrap_u32]
  congr 1

theorem or_add {a b k : Nat} (h : a < 2 ^ k) : a ||| b * 2 ^ k = a + b * 2 ^ k := by
  have := Nat.shiftLeft_add_eq_or_of_lt h b
  rw [Nat.shiftLeft_eq] at this
  rw [Nat.or_comm, ← this, Nat.add_comm]

theorem or256 {a b : Nat} (h : a < 256) : a ||| b * 256 = a + b * 256 := or_add (k := 8) h
theorem or65536 {a b : Nat} (h : a < 65536) : a ||| b * 65536 = a + b * 65536 := or_add (k := 16) h
theorem or16777216 {a b : Nat} (h : a < 16777216) : a ||| b * 16777216 = a + b * 16777216 := or_add (k := 24) h

theorem sum4 (a b c d : UInt8) : ext8 a + 256#32 * ext8 b + 65536#32 * ext8 c + 16777216#32 * ext8 d = ext8 a ||| (ext8 b <<< 8) ||| (ext8 c <<< 16) ||| (ext8 d <<< 24) := by
  apply BitVec.eq_of_toNat_eq
  have ha : a.toNat < 256 := a.toNat_lt
  have hb : b.toNat < 256 := b.toNat_lt
  have hc : c.toNat < 256 := c.toNat_lt
  have hd : d.toNat < 256 := d.toNat_lt
  have ex : ∀ z : UInt8, (ext8 z).toNat = z.toNat := fun z => by
    have : z.toNat < 256 := z.toNat_lt
    unfold ext8; rw [BitVec.toNat_ofNat]; omega
  have e1 : (ext8 b <<< 8).toNat = b.toNat * 256 := by
    rw [BitVec.toNat_shiftLeft, ex, Nat.shiftLeft_eq, show (2 : Nat) ^ 8 = 256 from rfl, show (2 : Nat) ^ 32 = 4294967296 from rfl]; omega
  have e2 : (ext8 c <<< 16).toNat = c.toNat * 65536 := by
    rw [BitVec.toNat_shiftLeft, ex, Nat.shiftLeft_eq, show (2 : Nat) ^ 16 = 65536 from rfl, show (2 : Nat) ^ 32 = 4294967296 from rfl]; omega
  have e3 : (ext8 d <<< 24).toNat = d.toNat * 16777216 := by
    rw [BitVec.toNat_shiftLeft, ex, Nat.shiftLeft_eq, show (2 : Nat) ^ 24 = 16777216 from rfl, show (2 : Nat) ^ 32 = 4294967296 from rfl]; omega
  have k1 : (256#32).toNat = 256 := rfl
  have k2 : (65536#32).toNat = 65536 := rfl
  have k3 : (16777216#32).toNat = 16777216 := rfl
  rw [BitVec.toNat_or, BitVec.toNat_or, BitVec.toNat_or, BitVec.toNat_add, BitVec.toNat_add, BitVec.toNat_add, BitVec.toNat_mul, BitVec.toNat_mul, BitVec.toNat_mul, e1, e2, e3, ex, ex, ex, ex, k1, k2, k3, or256 ha, or65536 (by omega), or16777216 (by omega), show (2 : Nat) ^ 32 = 4294967296 from rfl]
  omega

theorem bys_set (l : List UInt8) (j : Nat) (b : UInt8) : (bys l).set j [u8 b] = bys (l.set j b) := by
  simp [bys, List.map_set]
theorem bv8 (x : UInt8) : BitVec.ofInt IntKind.u8.bits (x.toNat : Int) = x.toBitVec := by
  apply BitVec.eq_of_toNat_eq
  rw [BitVec.toNat_ofInt]
  have : x.toNat < 256 := x.toNat_lt
  show ((x.toNat : Int) % 256).toNat = x.toNat
  omega
theorem wrap_bv8 (z : BitVec 8) : IntKind.u8.wrap (z.toNat : Int) = (z.toNat : Int) := by
  have := z.isLt
  simp [IntKind.wrap, IntKind.bits, IntKind.signed]
  omega
theorem u8_xor (a b : UInt8) : IntKind.u8.wrap ((BitVec.ofInt IntKind.u8.bits (a.toNat : Int) ^^^ BitVec.ofInt IntKind.u8.bits (b.toNat : Int)).toNat : Int) = ((a ^^^ b).toNat : Int) := by
  rw [bv8, bv8]; exact wrap_bv8 (a.toBitVec ^^^ b.toBitVec)
theorem u8_bne0 (a : UInt8) : ((a.toNat : Int) != 0) = (a != 0) := by
  rw [Bool.eq_iff_iff]
  simp only [bne_iff_ne, ne_eq]
  constructor
  · intro h e; subst e; exact h rfl
  · intro h e
    apply h
    apply UInt8.toNat_inj.1
    have : a.toNat = 0 := by omega
    rw [this]; rfl
/-- A number's low bits. -/
theorem and_low (c : Int) (m : Nat) (hm : m ≤ 65535) : ∃ C : Nat, C ≤ m ∧ IntKind.i64.wrap ((BitVec.ofInt IntKind.i64.bits c &&& BitVec.ofInt IntKind.i64.bits (m : Int)).toNat : Int) = (C : Int) := by
  refine ⟨(BitVec.ofInt IntKind.i64.bits c &&& BitVec.ofInt IntKind.i64.bits (m : Int)).toNat, ?_, ?_⟩
  all_goals
    have h1 : (BitVec.ofInt IntKind.i64.bits c &&& BitVec.ofInt IntKind.i64.bits (m : Int)).toNat ≤ m := by
      rw [BitVec.toNat_and]
      refine Nat.le_trans Nat.and_le_right ?_
      simp only [BitVec.toNat_ofInt]
      have : ((m : Int) % ((2 ^ IntKind.i64.bits : Nat) : Int)).toNat = m % 2 ^ IntKind.i64.bits := by
        rw [← Int.natCast_emod]; rfl
      rw [this]
      exact Nat.mod_le _ _
  · exact h1
  · exact i64_in (by omega) (by omega)

theorem or_i64 {a b k : Nat} (ha : a < 2 ^ k) (hb : a + b * 2 ^ k < 9223372036854775808) : IntKind.i64.wrap ((BitVec.ofInt IntKind.i64.bits (a : Int) ||| BitVec.ofInt IntKind.i64.bits ((b * 2 ^ k : Nat) : Int)).toNat : Int) = ((a + b * 2 ^ k : Nat) : Int) := by
  have e : ∀ u : Nat, u < 9223372036854775808 → (BitVec.ofInt IntKind.i64.bits (u : Int)).toNat = u := fun u hu => by
    rw [BitVec.toNat_ofInt]
    show ((u : Int) % 18446744073709551616).toNat = u
    omega
  rw [BitVec.toNat_or, e a (by omega), e (b * 2 ^ k) (by omega), or_add ha]
  exact i64_in (by omega) (by omega)
theorem i64_of_u8 (b : UInt8) : IntKind.i64.wrap (b.toNat : Int) = (b.toNat : Int) := by
  have : b.toNat < 256 := b.toNat_lt
  exact i64_in (by omega) (by omega)

end Go.Proofs.Ytcfnbofapjgepaa
