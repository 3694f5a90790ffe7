/-
  A state's class as a text: the contract of mini.key.
-/
import Derived.Test.YtbhjmioegdgpnaaLv
namespace Go.Proofs.Ytbhjmioegdgpnaa
open Go.Ab
set_option linter.unusedSimpArgs false
set_option linter.unusedVariables false

/-- A number as two bytes. -/
def kLo (x : Int) : UInt8 := UInt8.ofNat (IntKind.u8.wrap x).toNat
def kHi (x : Int) : UInt8 := UInt8.ofNat (IntKind.u8.wrap (x.fdiv (2 ^ min 8 IntKind.i64.bits))).toNat
theorem wrap_u8 (x : Int) : IntKind.u8.wrap x = x % 256 := by
  simp only [IntKind.wrap, IntKind.bits, IntKind.signed, Bool.false_eq_true, if_false]
  rfl
theorem u8_back (x : Int) : ((UInt8.ofNat (x % 256).toNat).toNat : Int) = x % 256 := by
  have h1 : 0 ≤ x % 256 := Int.emod_nonneg _ (by decide)
  have h2 : x % 256 < 256 := Int.emod_lt_of_pos _ (by decide)
  rw [UInt8.toNat_ofNat']
  omega
theorem kLo_val (x : Int) : D.v (.int .u8 (IntKind.u8.wrap x)) = u8 (kLo x) := by
  rw [u8, kLo, wrap_u8, u8_back]
theorem kHi_val (x : Int) : D.v (.int .u8 (IntKind.u8.wrap (x.fdiv (2 ^ min 8 IntKind.i64.bits)))) = u8 (kHi x) := by
  rw [u8, kHi, wrap_u8, u8_back]
theorem kLH {x y : Int} (hx : -1 ≤ x ∧ x < 65535) (hy : -1 ≤ y ∧ y < 65535) (h1 : kLo x = kLo y) (h2 : kHi x = kHi y) : x = y := by
  have m : min 8 IntKind.i64.bits = 8 := rfl
  have e1 : x % 256 = y % 256 := by
    rw [← u8_back x, ← u8_back y, ← wrap_u8, ← wrap_u8]
    exact congrArg (fun b : UInt8 => ((b.toNat : Nat) : Int)) h1
  have e2 : (x / 256) % 256 = (y / 256) % 256 := by
    unfold kHi at h2
    rw [m, wrap_u8, wrap_u8] at h2
    have := congrArg (fun b : UInt8 => ((b.toNat : Nat) : Int)) h2
    simp only [u8_back] at this
    rw [Int.fdiv_eq_ediv_of_nonneg _ (by decide), Int.fdiv_eq_ediv_of_nonneg _ (by decide)] at this
    exact this
  omega
/-- Numbers as a text. -/
def kBy (l : List Int) : List UInt8 := l.flatMap fun x => [kLo x, kHi x]
def kStr (l : List Int) : ByteArray := ⟨(kBy l).toArray⟩
theorem kBy_snoc (l : List Int) (x : Int) : kBy (l ++ [x]) = kBy l ++ [kLo x, kHi x] := by simp [kBy]
theorem kBy_len (l : List Int) : (kBy l).length = 2 * l.length := by
  induction l with
  | nil => rfl
  | cons x l ih => rw [kBy, List.flatMap_cons, List.length_append, show (l.flatMap fun x => [kLo x, kHi x]) = kBy l from rfl, ih]; simp; omega
theorem kBy_inj : ∀ {l m : List Int}, (∀ x ∈ l, -1 ≤ x ∧ x < 65535) → (∀ x ∈ m, -1 ≤ x ∧ x < 65535) → kBy l = kBy m → l = m
  | [], [], _, _, _ => rfl
  | [], _ :: _, _, _, h => by simp [kBy] at h
  | _ :: _, [], _, _, h => by simp [kBy] at h
  | x :: l, y :: m, hl, hm, h => by
    simp only [kBy, List.flatMap_cons, List.cons_append, List.nil_append, List.cons.injEq] at h
    obtain ⟨h1, h2, h3⟩ := h
    rw [kLH (hl x (by simp)) (hm y (by simp)) h1 h2, kBy_inj (fun z hz => hl z (by simp [hz])) (fun z hz => hm z (by simp [hz])) h3]
theorem kStr_eq {l m : List Int} (hl : ∀ x ∈ l, -1 ≤ x ∧ x < 65535) (hm : ∀ x ∈ m, -1 ≤ x ∧ x < 65535) : (kStr l == kStr m) = (l == m) := by
  rw [Bool.eq_iff_iff, Go.MapKept.bytes_beq, beq_iff_eq]
  constructor
  · intro h
    have : (kBy l).toArray = (kBy m).toArray := congrArg ByteArray.data h
    exact kBy_inj hl hm (by simpa using congrArg Array.toList this)
  · rintro rfl; rfl

end Go.Proofs.Ytbhjmioegdgpnaa
