/-
  Plain facts on sums: bytes of which four that stand side by side are other ones have another sum.
-/
import Derived.Test.YtmfonlkigjpjcaaCe
namespace Go.Proofs.Ytmfonlkigjpjcaa
open Go.Ab
set_option linter.unusedSimpArgs false
set_option linter.unusedVariables false

theorem and1_xor (a b : BitVec 32) : (a ^^^ b) &&& 1 = (a &&& 1) ^^^ (b &&& 1) := by
  ext i h
  simp only [BitVec.getElem_and, BitVec.getElem_xor]
  cases a[i] <;> cases b[i] <;> cases (1 : BitVec 32)[i] <;> rfl
theorem and1_cases (a : BitVec 32) : a &&& 1 = 0 ∨ a &&& 1 = 1 := by
  have h : (a &&& 1).toNat = a.toNat % 2 := by
    rw [BitVec.toNat_and]
    show a.toNat &&& 1 = _
    exact Nat.and_one_is_mod _
  rcases Nat.mod_two_eq_zero_or_one a.toNat with q | q
  · left; apply BitVec.eq_of_toNat_eq; rw [h, q]; rfl
  · right; apply BitVec.eq_of_toNat_eq; rw [h, q]; rfl
theorem shr_xor (a b : BitVec 32) (k : Nat) : (a ^^^ b) >>> k = (a >>> k) ^^^ (b >>> k) := by
  apply BitVec.eq_of_getLsbD_eq
  intro i h
  simp only [BitVec.getLsbD_xor, BitVec.getLsbD_ushiftRight]

theorem step_xor (a b : BitVec 32) : crcStep (a ^^^ b) = crcStep a ^^^ crcStep b := by
  unfold crcStep
  rw [and1_xor, shr_xor]
  rcases and1_cases a with h1 | h1 <;> rcases and1_cases b with h2 | h2 <;> rw [h1, h2]
  · rw [if_neg (by decide), if_neg (by decide), if_neg (by decide)]
  · rw [if_pos (by decide), if_neg (by decide), if_pos (by decide), BitVec.xor_assoc]
  · rw [if_pos (by decide), if_pos (by decide), if_neg (by decide), BitVec.xor_assoc, BitVec.xor_assoc, BitVec.xor_comm (b >>> 1)]
  · rw [if_neg (by decide), if_pos (by decide), if_pos (by decide), BitVec.xor_assoc, BitVec.xor_comm (b >>> 1), ← BitVec.xor_assoc (3988292384 : BitVec 32), BitVec.xor_self, BitVec.zero_xor]

theorem step_zero {a : BitVec 32} (h : crcStep a = 0) : a = 0 := by
  unfold crcStep at h
  rcases and1_cases a with h1 | h1
  · rw [h1, if_neg (by decide)] at h
    have e1 : a.toNat / 2 = 0 := by
      have := congrArg BitVec.toNat h
      rw [BitVec.toNat_ushiftRight, Nat.shiftRight_eq_div_pow] at this
      simpa using this
    have e2 : a.toNat % 2 = 0 := by
      have := congrArg BitVec.toNat h1
      rw [BitVec.toNat_and] at this
      rw [← Nat.and_one_is_mod]; exact this
    apply BitVec.eq_of_toNat_eq
    show a.toNat = 0
    omega
  · exfalso
    rw [h1, if_pos rfl] at h
    have := congrArg (fun x : BitVec 32 => x.getLsbD 31) h
    simp only [BitVec.getLsbD_xor, BitVec.getLsbD_ushiftRight] at this
    rw [BitVec.getLsbD_of_ge a (1 + 31) (by decide)] at this
    revert this
    decide

theorem steps_xor (a b : BitVec 32) : ∀ k, crcSteps k (a ^^^ b) = crcSteps k a ^^^ crcSteps k b
  | 0 => rfl
  | k + 1 => by simp only [crcSteps, steps_xor a b k, step_xor]
theorem steps_zero {a : BitVec 32} : ∀ {k : Nat}, crcSteps k a = 0 → a = 0
  | 0, h => h
  | k + 1, h => steps_zero (step_zero h)
theorem steps_inj {a b : BitVec 32} {k : Nat} (h : crcSteps k a = crcSteps k b) : a = b := by
  have h0 : crcSteps k (a ^^^ b) = 0 := by rw [steps_xor, h, BitVec.xor_self]; rfl
  have this : a ^^^ b = 0#32 := steps_zero h0
  have e : a ^^^ b ^^^ b = b := by rw [this, BitVec.zero_xor]
  rwa [BitVec.xor_assoc, BitVec.xor_self, BitVec.xor_zero] at e
theorem steps_add (a : BitVec 32) (j : Nat) : ∀ k, crcSteps (k + j) a = crcSteps k (crcSteps j a)
  | 0 => by rw [Nat.zero_add]; rfl
  | k + 1 => by
    rw [show k + 1 + j = (k + j) + 1 by omega]
    simp only [crcSteps, steps_add a j k]

/-- Bits that are shifted out one by one: nothing else happens. -/
theorem steps_shl (x : BitVec 32) : ∀ k, k ≤ 24 → x.toNat < 256 → crcSteps k (x <<< k) = x
  | 0, _, _ => by simp [crcSteps]
  | k + 1, hk, hx => by
    have hn : ∀ j, j ≤ 24 → (x <<< j).toNat = x.toNat * 2 ^ j := by
      intro j hj
      rw [BitVec.toNat_shiftLeft, Nat.shiftLeft_eq, Nat.mod_eq_of_lt]
      have h1 : 2 ^ j ≤ 2 ^ 24 := Nat.pow_le_pow_right (by decide) hj
      calc x.toNat * 2 ^ j ≤ 255 * 2 ^ 24 := Nat.mul_le_mul (by omega) h1
        _ < 2 ^ 32 := by decide
    have e1 : crcStep (x <<< (k + 1)) = x <<< k := by
      unfold crcStep
      have h0 : (x <<< (k + 1)) &&& 1 = 0 := by
        apply BitVec.eq_of_toNat_eq
        rw [BitVec.toNat_and]
        show (x <<< (k + 1)).toNat &&& 1 = 0
        rw [Nat.and_one_is_mod, hn (k + 1) hk, Nat.pow_succ, ← Nat.mul_assoc]
        omega
      rw [h0, if_neg (by decide)]
      apply BitVec.eq_of_toNat_eq
      rw [BitVec.toNat_ushiftRight, Nat.shiftRight_eq_div_pow, hn (k + 1) hk, hn k (by omega), Nat.pow_succ, ← Nat.mul_assoc]
      omega
    rw [show k + 1 = k + 1 from rfl, steps_add _ 1 k]
    show crcSteps k (crcStep (x <<< (k + 1))) = x
    rw [e1]
    exact steps_shl x k (by omega) hx

theorem ext8_lt (b : UInt8) : (ext8 b).toNat < 256 := by
  have : b.toNat < 256 := b.toNat_lt
  unfold ext8; rw [BitVec.toNat_ofNat]; omega

theorem crcAdd_eq (s : BitVec 32) (b : UInt8) : crcAdd s b = crcSteps 8 (s ^^^ ext8 b) := rfl

/-- Four bytes at once. -/
def word (a b c d : UInt8) : BitVec 32 := ext8 a ^^^ (ext8 b <<< 8) ^^^ (ext8 c <<< 16) ^^^ (ext8 d <<< 24)

theorem fold4 (s : BitVec 32) (a b c d : UInt8) : crcFold s [a, b, c, d] = crcSteps 32 (s ^^^ word a b c d) := by
  have hb : crcSteps 8 (ext8 b <<< 8) = ext8 b := steps_shl _ 8 (by decide) (ext8_lt b)
  have hc : crcSteps 16 (ext8 c <<< 16) = ext8 c := steps_shl _ 16 (by decide) (ext8_lt c)
  have hd : crcSteps 24 (ext8 d <<< 24) = ext8 d := steps_shl _ 24 (by decide) (ext8_lt d)
  have e : ∀ x j k, crcSteps (j + k) x = crcSteps j (crcSteps k x) := fun x j k => steps_add x k j
  simp only [crcFold, crcAdd_eq]
  have h32 : crcSteps 32 (s ^^^ word a b c d) = crcSteps 8 (crcSteps 24 (s ^^^ word a b c d)) := e _ 8 24
  have h24 : crcSteps 24 (s ^^^ word a b c d) = crcSteps 24 (s ^^^ ext8 a ^^^ (ext8 b <<< 8) ^^^ (ext8 c <<< 16)) ^^^ ext8 d := by
    unfold word
    rw [← hd, ← steps_xor]
    simp only [BitVec.xor_assoc]
    rw [hd]
  have h24' : crcSteps 24 (s ^^^ ext8 a ^^^ (ext8 b <<< 8) ^^^ (ext8 c <<< 16)) = crcSteps 8 (crcSteps 16 (s ^^^ ext8 a ^^^ (ext8 b <<< 8)) ^^^ ext8 c) := by
    rw [show 24 = 8 + 16 from rfl, e _ 8 16, steps_xor _ _ 16, hc]
  have h16 : crcSteps 16 (s ^^^ ext8 a ^^^ (ext8 b <<< 8)) = crcSteps 8 (crcSteps 8 (s ^^^ ext8 a) ^^^ ext8 b) := by
    rw [show 16 = 8 + 8 from rfl, e _ 8 8, steps_xor _ _ 8, hb]
  rw [h32, h24, h24', h16]

theorem word_zero {a b c d : UInt8} (h : word a b c d = 0) : a = 0 ∧ b = 0 ∧ c = 0 ∧ d = 0 := by
  have key : ∀ i, (word a b c d).getLsbD i = false := fun i => by rw [h]; exact BitVec.getLsbD_zero
  have e8 : ∀ (z : UInt8) (i : Nat), (ext8 z).getLsbD i = z.toNat.testBit i := by
    intro z i
    unfold ext8
    rw [BitVec.getLsbD_ofNat]
    by_cases hi : i < 32
    · simp [hi]
    · have : z.toNat.testBit i = false := Nat.testBit_lt_two_pow (Nat.lt_of_lt_of_le z.toNat_lt (Nat.pow_le_pow_right (by decide) (show 8 ≤ i by omega)))
      simp [hi, this]
  have hi8 : ∀ (z : UInt8) (i : Nat), 8 ≤ i → z.toNat.testBit i = false := fun z i hi => Nat.testBit_lt_two_pow (Nat.lt_of_lt_of_le z.toNat_lt (Nat.pow_le_pow_right (by decide) hi))
  have hz : ∀ z : UInt8, (∀ i, i < 8 → z.toNat.testBit i = false) → z = 0 := by
    intro z hz
    apply UInt8.toNat_inj.1
    apply Nat.eq_of_testBit_eq
    intro i
    rw [show (0 : UInt8).toNat = 0 from rfl, Nat.zero_testBit]
    by_cases hi : i < 8
    · exact hz i hi
    · exact hi8 z i (by omega)
  have bits : ∀ i, (a.toNat.testBit i ^^ (decide (i < 32) && !decide (i < 8) && b.toNat.testBit (i - 8)) ^^ (decide (i < 32) && !decide (i < 16) && c.toNat.testBit (i - 16)) ^^ (decide (i < 32) && !decide (i < 24) && d.toNat.testBit (i - 24))) = false := by
    intro i
    have := key i
    unfold word at this
    simp only [BitVec.getLsbD_xor, BitVec.getLsbD_shiftLeft, e8] at this
    exact this
  have ha : ∀ i, i < 8 → a.toNat.testBit i = false := fun i hi => by
    have := bits i
    have h1 : i < 16 := by omega
    have h2 : i < 24 := by omega
    simpa [hi, h1, h2] using this
  have hb : ∀ i, i < 8 → b.toNat.testBit i = false := fun i hi => by
    have := bits (i + 8)
    have h0 : i + 8 < 32 := by omega
    have h1 : i + 8 < 16 := by omega
    have h2 : i + 8 < 24 := by omega
    have h3 : ¬ i + 8 < 8 := by omega
    simpa [h0, h1, h2, h3, hi8 a (i + 8) (by omega)] using this
  have hc : ∀ i, i < 8 → c.toNat.testBit i = false := fun i hi => by
    have := bits (i + 16)
    have h0 : i + 16 < 32 := by omega
    have h1 : ¬ i + 16 < 16 := by omega
    have h2 : i + 16 < 24 := by omega
    have h3 : ¬ i + 16 < 8 := by omega
    have h4 : i + 16 - 8 = i + 8 := by omega
    simpa [h0, h1, h2, h3, h4, hi8 a (i + 16) (by omega), hi8 b (i + 8) (by omega)] using this
  have hd : ∀ i, i < 8 → d.toNat.testBit i = false := fun i hi => by
    have := bits (i + 24)
    have h0 : i + 24 < 32 := by omega
    have h1 : ¬ i + 24 < 16 := by omega
    have h2 : ¬ i + 24 < 24 := by omega
    have h3 : ¬ i + 24 < 8 := by omega
    have h4 : i + 24 - 8 = i + 16 := by omega
    have h5 : i + 24 - 16 = i + 8 := by omega
    simpa [h0, h1, h2, h3, h4, h5, hi8 a (i + 24) (by omega), hi8 b (i + 16) (by omega), hi8 c (i + 8) (by omega)] using this
  exact ⟨hz a ha, hz b hb, hz c hc, hz d hd⟩

/-- Two lists byte by byte. -/
def xors : List UInt8 → List UInt8 → List UInt8
  | a :: l, b :: m => (a ^^^ b) :: xors l m
  | _, _ => []

theorem ext8_xor (a b : UInt8) : ext8 (a ^^^ b) = ext8 a ^^^ ext8 b := by
  apply BitVec.eq_of_getLsbD_eq
  intro i hi
  unfold ext8
  rw [BitVec.getLsbD_xor, BitVec.getLsbD_ofNat, BitVec.getLsbD_ofNat, BitVec.getLsbD_ofNat, UInt8.toNat_xor, Nat.testBit_xor]
  simp [hi]

theorem crcAdd_xor (s r : BitVec 32) (a b : UInt8) : crcAdd (s ^^^ r) (a ^^^ b) = crcAdd s a ^^^ crcAdd r b := by
  rw [crcAdd_eq, crcAdd_eq, crcAdd_eq, ← steps_xor, ext8_xor]
  congr 1
  simp only [BitVec.xor_assoc]
  congr 1
  rw [← BitVec.xor_assoc r, BitVec.xor_comm r, BitVec.xor_assoc]

theorem fold_xor : ∀ (l m : List UInt8) (s r : BitVec 32), l.length = m.length → crcFold (s ^^^ r) (xors l m) = crcFold s l ^^^ crcFold r m
  | [], [], s, r, _ => rfl
  | a :: l, b :: m, s, r, h => by
    simp only [xors, crcFold, crcAdd_xor]
    exact fold_xor l m _ _ (by simpa using h)
  | [], _ :: _, _, _, h => by simp at h
  | _ :: _, [], _, _, h => by simp at h

theorem crcAdd_zero {s : BitVec 32} (h : crcAdd s 0 = 0) : s = 0 := by
  rw [crcAdd_eq] at h
  have := steps_zero h
  have e : ext8 0 = 0#32 := rfl
  rw [e, BitVec.xor_zero] at this
  exact this
theorem fold_zeros {s : BitVec 32} : ∀ (n : Nat), crcFold s (List.replicate n 0) = 0 → s = 0
  | 0, h => h
  | n + 1, h => by
    rw [List.replicate_succ] at h
    exact crcAdd_zero (fold_zeros n h)
theorem fold_zero_zeros : ∀ (n : Nat), crcFold 0 (List.replicate n 0) = 0
  | 0 => rfl
  | n + 1 => by
    rw [List.replicate_succ]
    simp only [crcFold]
    have : crcAdd 0 0 = 0 := by decide
    rw [this]; exact fold_zero_zeros n

/-- Four other bytes, and noughts on both sides: another sum. -/
theorem burst {k m : Nat} {a b c d : UInt8} (h : crcFold 0 (List.replicate k 0 ++ [a, b, c, d] ++ List.replicate m 0) = 0) : a = 0 ∧ b = 0 ∧ c = 0 ∧ d = 0 := by
  rw [crcFold_append, crcFold_append, fold_zero_zeros] at h
  have h1 := fold_zeros m h
  rw [fold4] at h1
  have h2 := steps_zero h1
  have e : (0 : BitVec 32) ^^^ word a b c d = word a b c d := BitVec.zero_xor
  rw [e] at h2
  exact word_zero h2

/-- Sealed bytes, told by their last four. -/
theorem get4_word (l : List UInt8) (i : Nat) : get4 l i = word (l.getD i 0) (l.getD (i + 1) 0) (l.getD (i + 2) 0) (l.getD (i + 3) 0) := by
  unfold get4 word
  have e8 : ∀ (z : UInt8) (i : Nat), 8 ≤ i → (ext8 z).getLsbD i = false := by
    intro z i hi
    unfold ext8
    rw [BitVec.getLsbD_ofNat]
    have : z.toNat.testBit i = false := Nat.testBit_lt_two_pow (Nat.lt_of_lt_of_le z.toNat_lt (Nat.pow_le_pow_right (by decide) hi))
    simp [this]
  apply BitVec.eq_of_getLsbD_eq
  intro j hj
  simp only [BitVec.getLsbD_or, BitVec.getLsbD_xor, BitVec.getLsbD_shiftLeft]
  by_cases h1 : j < 8
  · have h2 : j < 16 := by omega
    have h3 : j < 24 := by omega
    simp [h1, h2, h3]
  · rw [e8 _ j (by omega)]
    by_cases h2 : j < 16
    · have h3 : j < 24 := by omega
      simp [h1, h2, h3]
    · rw [e8 _ (j - 8) (by omega)]
      by_cases h3 : j < 24
      · simp [h1, h2, h3]
      · rw [e8 _ (j - 16) (by omega)]
        simp [h1, h2, h3]

theorem not_eq_xor (F W : BitVec 32) : (~~~F = W) ↔ F ^^^ W = ~~~0 := by
  constructor
  · rintro rfl
    apply BitVec.eq_of_getLsbD_eq
    intro i hi
    rw [BitVec.getLsbD_xor, BitVec.getLsbD_not, BitVec.getLsbD_not]
    have : (0 : BitVec 32).getLsbD i = false := BitVec.getLsbD_zero
    rw [this]
    cases F.getLsbD i <;> simp [hi]
  · intro h
    apply BitVec.eq_of_getLsbD_eq
    intro i hi
    have := congrArg (fun x : BitVec 32 => x.getLsbD i) h
    simp only [BitVec.getLsbD_xor, BitVec.getLsbD_not] at this
    have h0 : (0 : BitVec 32).getLsbD i = false := BitVec.getLsbD_zero
    rw [h0] at this
    rw [BitVec.getLsbD_not]
    revert this
    cases F.getLsbD i <;> cases W.getLsbD i <;> simp [hi]

/-- Whether bytes are sealed, by their own sum. -/
theorem sealed_iff {t : List UInt8} (ht : 4 ≤ t.length) : crcSum (t.take (t.length - 4)) = get4 t (t.length - 4) ↔ crcFold (~~~0) t = crcSteps 32 (~~~0) := by
  have hd : ∀ j, t.getD j 0 = (t[j]?).getD 0 := fun j => by simp [List.getD]
  have hs : t = t.take (t.length - 4) ++ [t.getD (t.length - 4) 0, t.getD (t.length - 4 + 1) 0, t.getD (t.length - 4 + 2) 0, t.getD (t.length - 4 + 3) 0] := by
    apply List.ext_getElem?
    intro j
    by_cases h1 : j < t.length - 4
    · rw [List.getElem?_append_left (by simp; omega), List.getElem?_take, if_pos h1]
    · rw [List.getElem?_append_right (by simp; omega)]
      have e : j - (t.take (t.length - 4)).length = j - (t.length - 4) := by simp
      rw [e]
      by_cases h2 : j < t.length
      · have : j = t.length - 4 ∨ j = t.length - 4 + 1 ∨ j = t.length - 4 + 2 ∨ j = t.length - 4 + 3 := by omega
        rcases this with q | q | q | q
        · rw [q, Nat.sub_self]; simp only [hd, List.getElem?_cons_zero]; rw [List.getElem?_eq_getElem (by omega)]; rfl
        · rw [q, Nat.add_sub_cancel_left]; simp only [hd, List.getElem?_cons_succ, List.getElem?_cons_zero]; rw [List.getElem?_eq_getElem (by omega)]; rfl
        · rw [q, Nat.add_sub_cancel_left]; simp only [hd, List.getElem?_cons_succ, List.getElem?_cons_zero]; rw [List.getElem?_eq_getElem (by omega)]; rfl
        · rw [q, Nat.add_sub_cancel_left]; simp only [hd, List.getElem?_cons_succ, List.getElem?_cons_zero]; rw [List.getElem?_eq_getElem (by omega)]; rfl
      · rw [List.getElem?_eq_none (by omega), List.getElem?_eq_none (by simp; omega)]
  have hf : crcFold (~~~0) t = crcSteps 32 (crcFold (~~~0) (t.take (t.length - 4)) ^^^ get4 t (t.length - 4)) := by
    rw [get4_word, ← fold4, ← crcFold_append, ← hs]
  unfold crcSum
  rw [not_eq_xor, hf]
  exact ⟨fun h => by rw [h], fun h => steps_inj h⟩

/-- What stands four bytes on. -/
def bent (s : List UInt8) (k : Nat) (xs : List UInt8) : Nat → List UInt8
  | 0 => s
  | i + 1 => (bent s k xs i).set (k + i) ((bent s k xs i).getD (k + i) 0 ^^^ xs.getD i 0)
theorem bent_len (s : List UInt8) (k : Nat) (xs : List UInt8) : ∀ i, (bent s k xs i).length = s.length
  | 0 => rfl
  | i + 1 => by simp only [bent, List.length_set, bent_len s k xs i]
theorem bent_get (s : List UInt8) (k : Nat) (xs : List UInt8) : ∀ (i j : Nat), j < s.length → (bent s k xs i)[j]? = some (s.getD j 0 ^^^ (if k ≤ j ∧ j < k + i then xs.getD (j - k) 0 else 0))
  | 0, j, hj => by
    have : ¬ (k ≤ j ∧ j < k + 0) := by omega
    simp only [bent, this, if_false, UInt8.xor_zero]
    simp [List.getD, List.getElem?_eq_getElem hj]
  | i + 1, j, hj => by
    have ih := bent_get s k xs i j hj
    simp only [bent]
    by_cases h : k + i = j
    · subst h
      have hg : (bent s k xs i).getD (k + i) 0 = s.getD (k + i) 0 := by
        rw [List.getD, ih]
        have : ¬ (k ≤ k + i ∧ k + i < k + i) := by omega
        simp only [this, if_false, UInt8.xor_zero, Option.getD_some]
      rw [List.getElem?_set_self (by rw [bent_len]; exact hj), hg]
      have h2 : k ≤ k + i ∧ k + i < k + (i + 1) := by omega
      simp only [h2, and_self, if_true, Nat.add_sub_cancel_left]
    · rw [List.getElem?_set_ne h, ih]
      congr 2
      have : (k ≤ j ∧ j < k + i) ↔ (k ≤ j ∧ j < k + (i + 1)) := by omega
      simp only [this]

theorem xors_get : ∀ (l m : List UInt8) (j : Nat), l.length = m.length → (xors l m)[j]? = if j < l.length then some (l.getD j 0 ^^^ m.getD j 0) else none
  | [], [], j, _ => by simp [xors]
  | a :: l, b :: m, 0, _ => by simp [xors]
  | a :: l, b :: m, j + 1, h => by
    have := xors_get l m j (by simpa using h)
    simpa [xors] using this
  | [], _ :: _, _, h => by simp at h
  | _ :: _, [], _, h => by simp at h

theorem bent_xors (s : List UInt8) (k : Nat) (a b c d : UInt8) (h : k + 4 ≤ s.length) : bent s k [a, b, c, d] 4 = xors s (List.replicate k 0 ++ [a, b, c, d] ++ List.replicate (s.length - 4 - k) 0) := by
  apply List.ext_getElem?
  intro j
  have hl : s.length = (List.replicate k (0 : UInt8) ++ [a, b, c, d] ++ List.replicate (s.length - 4 - k) 0).length := by simp; omega
  rw [xors_get _ _ _ hl]
  by_cases hj : j < s.length
  · rw [bent_get _ _ _ _ _ hj, if_pos hj]
    congr 2
    by_cases h1 : j < k
    · have h2 : ¬ (k ≤ j ∧ j < k + 4) := by omega
      rw [if_neg h2, List.append_assoc]
      simp [List.getD, List.getElem?_append_left (show j < (List.replicate k (0 : UInt8)).length by simpa using h1), h1]
    · by_cases h2 : j < k + 4
      · rw [if_pos ⟨by omega, h2⟩]
        simp only [List.getD]
        rw [List.getElem?_append_left (by simp; omega), List.getElem?_append_right (by simp; omega)]
        simp
      · rw [if_neg (by omega)]
        simp only [List.getD]
        rw [List.getElem?_append_right (by simp; omega)]
        simp only [List.length_append, List.length_replicate, List.length_cons, List.length_nil]
        rw [List.getElem?_replicate]
        split <;> rfl
  · rw [if_neg hj, List.getElem?_eq_none (by rw [bent_len]; omega)]

/-- What is sealed, with four bytes bent: it is sealed just if none is another one. -/
theorem bent_sealed {y : List UInt8} {k : Nat} {a b c d : UInt8} (h : k ≤ y.length) (t : List UInt8) (ht : t = bent (y ++ put4 (crcSum y)) k [a, b, c, d] 4) :
    (crcSum (t.take (t.length - 4)) = get4 t (t.length - 4)) ↔ (a = 0 ∧ b = 0 ∧ c = 0 ∧ d = 0) := by
  have hs : (y ++ put4 (crcSum y)).length = y.length + 4 := by simp [put4_len]
  have htl : t.length = y.length + 4 := by rw [ht, bent_len, hs]
  rw [sealed_iff (by omega), ht, bent_xors _ _ _ _ _ _ (by rw [hs]; omega)]
  have h0 : crcFold (~~~0) (y ++ put4 (crcSum y)) = crcSteps 32 (~~~0) := by
    rw [← sealed_iff (by omega), hs, Nat.add_sub_cancel, get4_app]
    congr 1
    simp
  have e : (~~~0 : BitVec 32) = ~~~0 ^^^ 0 := by decide
  have hl : (y ++ put4 (crcSum y)).length = (List.replicate k (0 : UInt8) ++ [a, b, c, d] ++ List.replicate ((y ++ put4 (crcSum y)).length - 4 - k) 0).length := by simp [put4_len]; omega
  have hx := fold_xor (y ++ put4 (crcSum y)) _ (~~~0) 0 hl
  rw [← e] at hx
  rw [hx, h0]
  constructor
  · intro h1
    have h2 : crcFold 0 (List.replicate k (0 : UInt8) ++ [a, b, c, d] ++ List.replicate ((y ++ put4 (crcSum y)).length - 4 - k) 0) = 0 := by
      have := congrArg (fun z => crcSteps 32 (~~~0) ^^^ z) h1
      simp only [← BitVec.xor_assoc, BitVec.xor_self, BitVec.zero_xor] at this
      exact this
    exact burst h2
  · rintro ⟨rfl, rfl, rfl, rfl⟩
    have : List.replicate k (0 : UInt8) ++ [0, 0, 0, 0] ++ List.replicate ((y ++ put4 (crcSum y)).length - 4 - k) 0 = List.replicate (k + 4 + ((y ++ put4 (crcSum y)).length - 4 - k)) 0 := by
      rw [show ([0, 0, 0, 0] : List UInt8) = List.replicate 4 0 from rfl, List.replicate_append_replicate, List.replicate_append_replicate]
    rw [this, fold_zero_zeros]
    exact BitVec.xor_zero

end Go.Proofs.Ytmfonlkigjpjcaa
