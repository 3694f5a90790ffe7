/-
  The contract of the law SnapAny.
-/
import Derived.Test.YtmfonlkigjpjcaaSn9
namespace Go.Proofs.Ytmfonlkigjpjcaa
open Go.Ab
set_option linter.unusedSimpArgs false
set_option linter.unusedVariables false

theorem low1 (c : Int) : IntKind.i64.wrap ((BitVec.ofInt IntKind.i64.bits c &&& BitVec.ofInt IntKind.i64.bits 1).toNat : Int) = (lowB 1 c : Int) := lowB_wrap 1 c (by decide)
theorem tmodN (a b : Nat) : Int.tmod (a : Int) (b : Int) = ((a % b : Nat) : Int) := rfl
theorem u8_any (n : Int) : ∃ Y : UInt8, IntKind.u8.wrap n = (Y.toNat : Int) := by
  refine ⟨UInt8.ofNat (IntKind.u8.wrap n).toNat, ?_⟩
  have h : 0 ≤ IntKind.u8.wrap n ∧ IntKind.u8.wrap n < 256 := by
    simp only [IntKind.wrap, IntKind.signed, IntKind.bits]; simp; omega
  simp only [UInt8.toNat_ofNat']; omega

/-- An image by picks may be. -/
theorem mayI (a b : Int) (l : List (Int × List Int)) : mayB (lowB 65535 a : Int) (lowB 255 b : Int) (sentsI l 4) (takenI l 4) = true := by
  have h1 : okI (lowB 65535 a : Int) = true := by have := lowB_le 65535 a (by decide); rw [okI_iff]; omega
  have h2 : okI (lowB 255 b : Int) = true := by have := lowB_le 255 b (by decide); rw [okI_iff]; omega
  have hl : (sentsI l 4).length = (takenI l 4).length := by simp [sentsI, takenI]
  have h16 : (sentsI l 4).length ≤ 16 := by simp [sentsI]; omega
  simp only [mayB, h1, h2, decide_eq_true hl, decide_eq_true h16, Bool.true_and]
  rw [allS, List.all_eq_true]
  intro j hj
  have hj : j < (sentsI l 4).length := List.mem_range.1 hj
  have hj4 : j < (l.take 4).length := by simpa [sentsI] using hj
  have e1 : (sentsI l 4).getD j (0, []) = sentI ((l.take 4)[j]) := by
    rw [List.getD, List.getElem?_eq_getElem hj]
    simp only [sentsI, List.getElem_map, Option.getD_some]
  have e2 : (takenI l 4).getD j 0 = (lowB 7 (lowB 63 ((l.take 4)[j]).1 : Int) : Int) := by
    rw [List.getD, takenI, List.getElem?_map, List.getElem?_eq_getElem hj4]
    rfl
  rw [e1, e2]
  generalize (l.take 4)[j] = x
  have q1 := lowB_le 63 x.1 (by decide)
  have q2 := lowB_le 7 (lowB 63 x.1 : Int) (by decide)
  have q3 : okI (sentI x).1 = true := by rw [okI_iff]; simp only [sentI]; omega
  have q4 : okI (lowB 7 (lowB 63 x.1 : Int) : Int) = true := by rw [okI_iff]; omega
  have q5 : ((sentI x).2.length : Int) ≤ (if 8 < (sentI x).1 then 8 else (sentI x).1) := by
    have es : (sentI x).1 = (lowB 63 x.1 : Int) := rfl
    have el : (sentI x).2.length = min (min 8 (lowB 63 x.1)) x.2.length := by simp [sentI]
    by_cases h8 : (8 : Int) < (sentI x).1
    · rw [if_pos h8]; omega
    · rw [if_neg h8]; omega
  have q6 : ((sentI x).2.any fun x => !okI x) = false := by
    rw [List.any_eq_false]
    intro y hy
    simp only [sentI, List.mem_map] at hy
    obtain ⟨z, _, rfl⟩ := hy
    have := lowB_le 1023 z (by decide)
    have : okI (lowB 1023 z : Int) = true := by rw [okI_iff]; omega
    simp [this]
  simp only [sOk, q3, q4, decide_eq_true q5, q6, Bool.true_and, Bool.not_false]

theorem snapNums_bd {z a b : Int} {l : List (Int × List Int)} {k : List Int} (hm : mayB a b l k = true) (hz : z ≤ 2147483647) : (cps (snapNums z a b l k)).length ≤ 1000 ∧ 4 ≤ (cps (snapNums z a b l k)).length := by
  obtain ⟨hlk, h16, hA, hB, hS⟩ := mayB_true hm
  have ha := (okI_iff a).1 hA
  have hb := (okI_iff b).1 hB
  have h1 := cps_len (snapNums z a b l k) (sNums_bd hS hz ha.2 hb.2 h16 l.length (Nat.le_refl _))
  have h2 : (snapNums z a b l k).length ≤ 4 + 11 * l.length := sNums_ct hS l.length (Nat.le_refl _)
  refine ⟨by omega, ?_⟩
  have p := codePut_pos
  have e : cps (snapNums z a b l k) = codePut z.toNat ++ (codePut a.toNat ++ (codePut b.toNat ++ (codePut (l.length : Int).toNat ++ cps (sNums l k l.length)))) := rfl
  rw [e]
  simp only [List.length_append]
  have := p z.toNat; have := p a.toNat; have := p b.toNat; have := p (l.length : Int).toNat
  omega

theorem cps_small {z a b : Int} {l : List (Int × List Int)} {k : List Int} (hm : mayB a b l k = true) (hz : z ≤ 2147483647) (h4 : l.length ≤ 4) : (cps (snapNums z a b l k)).length ≤ 240 := by
  obtain ⟨hlk, h16, hA, hB, hS⟩ := mayB_true hm
  have ha := (okI_iff a).1 hA
  have hb := (okI_iff b).1 hB
  have h1 := cps_len (snapNums z a b l k) (sNums_bd hS hz ha.2 hb.2 h16 l.length (Nat.le_refl _))
  have h2 : (snapNums z a b l k).length ≤ 4 + 11 * l.length := sNums_ct hS l.length (Nat.le_refl _)
  omega

end Go.Proofs.Ytmfonlkigjpjcaa
