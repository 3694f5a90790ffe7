/-
  Plain facts on first blocks: torn ones.
-/
import Derived.Test.YtmfonlkigjpjcaaSn9
import Derived.Test.YtmfonlkigjpjcaaBurst
namespace Go.Proofs.Ytmfonlkigjpjcaa
open Go.Ab
set_option linter.unusedSimpArgs false
set_option linter.unusedVariables false

theorem sum4_eq {l : List UInt8} (h : l.length = 4) : crcSum l = ~~~ crcSteps 32 (~~~0 ^^^ get4 l 0) := by
  match l, h with
  | [a, b, c, d], _ =>
    rw [crcSum, fold4, get4_word]
    rfl
theorem sum4_inj {l m : List UInt8} (hl : l.length = 4) (hm : m.length = 4) (h : crcSum l = crcSum m) : get4 l 0 = get4 m 0 := by
  rw [sum4_eq hl, sum4_eq hm] at h
  have h1 : ∀ a b : BitVec 32, ~~~a = ~~~b → a = b := fun a b e => by
    have := congrArg (~~~ ·) e
    simpa using this
  have h2 := steps_inj (h1 _ _ h)
  have h3 := congrArg (fun x => ~~~0 ^^^ x) h2
  simpa [← BitVec.xor_assoc] using h3
theorem sum4_zero {l : List UInt8} (hl : l.length = 4) (h : crcSum l = 0) : get4 l 0 = 0x6dd90a9d := by
  rw [sum4_eq hl] at h
  have h0 : crcSteps 32 (~~~0 ^^^ 0x6dd90a9d) = (~~~0 : BitVec 32) := by decide +kernel
  have h1 : crcSteps 32 (~~~0 ^^^ get4 l 0) = (~~~0 : BitVec 32) := by
    have := congrArg (~~~ ·) h
    simpa using this
  have h2 := steps_inj (h1.trans h0.symm)
  have h3 := congrArg (fun x => ~~~0 ^^^ x) h2
  simpa [← BitVec.xor_assoc] using h3

theorem get4_of {l m : List UInt8} {i j : Nat} (h : ∀ t, t < 4 → l.getD (i + t) 0 = m.getD (j + t) 0) : get4 l i = get4 m j := by
  have e0 := h 0 (by omega)
  rw [get4, get4, h 1 (by omega), h 2 (by omega), h 3 (by omega)]
  rw [Nat.add_zero, Nat.add_zero] at e0
  rw [e0]
theorem getD_mid (l : List UInt8) (i n t : Nat) (h : t < n) : ((l.drop i).take n).getD t 0 = l.getD (i + t) 0 := by
  simp [List.getD, List.getElem?_take, h]
theorem getD_torn {A B : List UInt8} {k t : Nat} (hk : k ≤ A.length) : (A.take k ++ B.drop k).getD t 0 = if t < k then A.getD t 0 else B.getD t 0 := by
  have hl : (A.take k).length = k := by simp; omega
  by_cases h : t < k
  · rw [if_pos h]
    simp [List.getD, List.getElem?_append_left (show t < (A.take k).length by omega), List.getElem?_take, h]
  · rw [if_neg h]
    simp [List.getD, List.getElem?_append_right (show (A.take k).length ≤ t by omega), hl, show k + (t - k) = t by omega]

theorem torn_gen {g o : BitVec 32} {k : Nat} (hk : k ≤ 32) (h : genOk ((headB g).take k ++ (headB o).drop k) = true) : get4 ((headB g).take k ++ (headB o).drop k) 4 = g ∨ get4 ((headB g).take k ++ (headB o).drop k) 4 = o := by
  have hg := gen_head g
  have ho := gen_head o
  have lg := headB_len g
  have lo := headB_len o
  have hT : ∀ t, ((headB g).take k ++ (headB o).drop k).getD t 0 = if t < k then (headB g).getD t 0 else (headB o).getD t 0 := fun t => getD_torn (by omega)
  have hlen : ((headB g).take k ++ (headB o).drop k).length = 32 := by simp; omega
  generalize (headB g).take k ++ (headB o).drop k = T at *
  by_cases h8 : 8 ≤ k
  · left
    rw [← hg.2]
    exact get4_of fun t ht => by rw [hT, if_pos (by omega)]
  · right
    have e1 : get4 T 8 = get4 (headB o) 8 := get4_of fun t ht => by rw [hT, if_neg (by omega)]
    simp only [genOk, Bool.and_eq_true, decide_eq_true_eq, beq_iff_eq] at h ho
    have e2 : crcSum ((T.drop 4).take 4) = crcSum (((headB o).drop 4).take 4) := by rw [← h.2.2, e1, ho.1.2.2]
    have e3 := sum4_inj (by simp; omega) (by simp; omega) e2
    have e4 : get4 ((T.drop 4).take 4) 0 = get4 T 4 := get4_of fun t ht => by rw [getD_mid _ _ _ _ (by omega)]; congr 1; omega
    have e5 : get4 (((headB o).drop 4).take 4) 0 = get4 (headB o) 4 := get4_of fun t ht => by rw [getD_mid _ _ _ _ (by omega)]; congr 1; omega
    rw [← e4, e3, e5, ho.2]

theorem zero_gen {g : BitVec 32} {k : Nat} (hk : k ≤ 32) (h : genOk ((headB g).take k ++ zer (32 - k)) = true) : get4 ((headB g).take k ++ zer (32 - k)) 4 = g := by
  have hg := gen_head g
  have lg := headB_len g
  have hz : zer (32 - k) = (zer 32).drop k := by rw [zer, zer, List.drop_replicate]
  rw [hz] at h ⊢
  have hT : ∀ t, ((headB g).take k ++ (zer 32).drop k).getD t 0 = if t < k then (headB g).getD t 0 else (zer 32).getD t 0 := fun t => getD_torn (by omega)
  have hlen : ((headB g).take k ++ (zer 32).drop k).length = 32 := by simp [zer_len]; omega
  generalize (headB g).take k ++ (zer 32).drop k = T at *
  by_cases h8 : 8 ≤ k
  · rw [← hg.2]
    exact get4_of fun t ht => by rw [hT, if_pos (by omega)]
  · exfalso
    have e1 : get4 T 8 = get4 (zer 32) 8 := get4_of fun t ht => by rw [hT, if_neg (by omega)]
    have e1' : get4 (zer 32) 8 = 0 := by decide
    simp only [genOk, Bool.and_eq_true, decide_eq_true_eq, beq_iff_eq] at h
    have e3 := sum4_zero (l := (T.drop 4).take 4) (by simp; omega) (by rw [← h.2.2, e1, e1'])
    have e4 : get4 ((T.drop 4).take 4) 0 = get4 T 4 := get4_of fun t ht => by rw [getD_mid _ _ _ _ (by omega)]; congr 1; omega
    rw [e4, get4, hT 7, if_neg (by omega), zer_get, ← sum4] at e3
    generalize T.getD 4 0 = a at e3
    generalize T.getD (4 + 1) 0 = b at e3
    generalize T.getD (4 + 2) 0 = c at e3
    have ha := a.toNat_lt
    have hb := b.toNat_lt
    have hc := c.toNat_lt
    have e := congrArg BitVec.toNat e3
    simp only [BitVec.toNat_add, BitVec.toNat_mul, ext8, BitVec.toNat_ofNat] at e
    have h0 : (0 : UInt8).toNat = 0 := rfl
    rw [h0] at e
    simp at e
    omega

end Go.Proofs.Ytmfonlkigjpjcaa
