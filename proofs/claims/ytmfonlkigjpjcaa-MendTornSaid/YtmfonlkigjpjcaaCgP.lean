/-
  Plain facts on numbers of seven bits a byte: what is put is got; what is got was put.
-/
import Derived.Test.YtmfonlkigjpjcaaCget
import Derived.Test.YtmfonlkigjpjcaaCe
import Derived.Test.YtmfonlkigjpjcaaCd
namespace Go.Proofs.Ytmfonlkigjpjcaa
open Go.Ab
set_option linter.unusedSimpArgs false
set_option linter.unusedVariables false

theorem cgGo_put : ∀ (u f i n : Nat) (r : List UInt8), (codePut u).length ≤ f → n + u * 128 ^ i ≤ 2147483647 → (0 < u ∨ i = 0) → cgGo f (codePut u ++ r) i n = (n + u * 128 ^ i, i + (codePut u).length) := by
  intro u
  induction u using Nat.strongRecOn with
  | _ u ih =>
    intro f i n r hf hb hu
    by_cases h : u < 128
    · rw [codePut_small h] at hf ⊢
      cases f with
      | zero => simp at hf
      | succ f =>
        have e : (UInt8.ofNat u).toNat = u := by simp; omega
        have e2 : u % 128 = u := Nat.mod_eq_of_lt h
        rw [List.singleton_append, cgGo, if_neg (by rw [e]; omega), e, e2, if_neg (by omega)]
        rfl
    · rw [codePut_big h] at hf ⊢
      cases f with
      | zero => simp at hf
      | succ f =>
        have e : (low7 u).toNat = u % 128 + 128 := by simp [low7]; omega
        have e2 : (u % 128 + 128) % 128 = u % 128 := by omega
        have e3 : u % 128 * 128 ^ i + u / 128 * 128 ^ (i + 1) = u * 128 ^ i := by
          rw [Nat.pow_succ]
          generalize 128 ^ i = p
          have : u = 128 * (u / 128) + u % 128 := by omega
          generalize u / 128 = a at *
          generalize u % 128 = b at *
          subst this
          rw [Nat.add_mul, Nat.add_comm, ← Nat.mul_assoc, Nat.mul_comm (a * p) 128, Nat.mul_assoc]
        rw [List.cons_append, cgGo, if_pos (by rw [e]; omega), e, e2, ih (u / 128) (by omega) f (i + 1) (n + u % 128 * 128 ^ i) r (by simpa using hf) (by omega) (.inl (by omega))]
        simp only [List.length_cons, Prod.mk.injEq]
        omega

theorem codePut5 {u : Nat} (h : u ≤ 2147483647) : (codePut u).length ≤ 5 := codePut_len10 4 u (by omega)
theorem codeGet_put {u : Nat} (h : u ≤ 2147483647) (r : List UInt8) : codeGet (codePut u ++ r) = (u, (codePut u).length) := by
  unfold codeGet
  rw [cgGo_put u 5 0 0 r (codePut5 h) (by omega) (.inr rfl)]
  simp

theorem cgGo_take : ∀ (f : Nat) (l : List UInt8) (i n m k : Nat), cgGo f l i n = (m, k) → 0 < k → ∃ u, i < k ∧ k - i ≤ l.length ∧ l.take (k - i) = codePut u ∧ m = n + u * 128 ^ i ∧ m ≤ 2147483647 ∧ (0 < u ∨ i = 0) := by
  intro f
  induction f with
  | zero => intro l i n m k h hk; simp [cgGo] at h; omega
  | succ f ih =>
    intro l i n m k h hk
    cases l with
    | nil => simp [cgGo] at h; omega
    | cons c r =>
      have hcl : c.toNat < 256 := c.toNat_lt
      rw [cgGo] at h
      split at h
      · rename_i hc
        obtain ⟨u, h1, h2, h3, h4, h5, h6⟩ := ih r (i + 1) _ m k h hk
        have hu : 0 < u := by omega
        refine ⟨c.toNat % 128 + 128 * u, by omega, by simp only [List.length_cons]; omega, ?_, ?_, h5, .inl (by omega)⟩
        · rw [show k - i = (k - (i + 1)) + 1 by omega, List.take_succ_cons, h3, codePut_big (u := c.toNat % 128 + 128 * u) (by omega)]
          have e1 : (c.toNat % 128 + 128 * u) / 128 = u := by omega
          have e2 : low7 (c.toNat % 128 + 128 * u) = c := by
            apply UInt8.toNat_inj.1
            simp only [low7, UInt8.toNat_ofNat']; omega
          rw [e1, e2]
        · rw [h4, Nat.pow_succ]
          generalize 128 ^ i = p
          rw [Nat.add_mul, Nat.add_assoc]
          congr 2
          rw [Nat.mul_comm p 128, ← Nat.mul_assoc, Nat.mul_comm u 128]
      · rename_i hc
        split at h
        · simp at h; omega
        · rename_i hd
          simp only [Prod.mk.injEq] at h
          obtain ⟨rfl, rfl⟩ := h
          have e2 : c.toNat % 128 = c.toNat := Nat.mod_eq_of_lt (by omega)
          refine ⟨c.toNat, by omega, by simp only [List.length_cons]; omega, ?_, by rw [e2], by rw [e2] at hd ⊢; omega, by omega⟩
          rw [show i + 1 - i = 1 by omega, codePut_small (u := c.toNat) (by omega)]
          have : UInt8.ofNat c.toNat = c := by simp
          rw [this]; rfl

theorem codeGet_take {l : List UInt8} (h : 0 < (codeGet l).2) : l.take (codeGet l).2 = codePut (codeGet l).1 ∧ (codeGet l).1 ≤ 2147483647 ∧ (codeGet l).2 ≤ l.length := by
  obtain ⟨u, h1, h2, h3, h4, h5, h6⟩ := cgGo_take 5 l 0 0 (codeGet l).1 (codeGet l).2 rfl h
  simp only [Nat.sub_zero, Nat.pow_zero, Nat.mul_one, Nat.zero_add] at h2 h3 h4
  exact ⟨by rw [h3, h4], h5, h2⟩
theorem codeGet_le (l : List UInt8) : (codeGet l).2 ≤ l.length := by
  by_cases h : 0 < (codeGet l).2
  · exact (codeGet_take h).2.2
  · omega
theorem codeGet_small (l : List UInt8) : (codeGet l).1 ≤ 2147483647 ∨ (codeGet l).2 = 0 := by
  by_cases h : 0 < (codeGet l).2
  · exact .inl (codeGet_take h).2.1
  · exact .inr (by omega)

theorem get4_pre {l m : List UInt8} {i : Nat} (h : i + 4 ≤ l.length) : get4 (l ++ m) i = get4 l i := by
  have e : ∀ j, j < l.length → (l ++ m).getD j 0 = l.getD j 0 := fun j hj => by
    simp [List.getD, List.getElem?_append_left hj]
  rw [get4, get4, e i (by omega), e (i + 1) (by omega), e (i + 2) (by omega), e (i + 3) (by omega)]

end Go.Proofs.Ytmfonlkigjpjcaa
