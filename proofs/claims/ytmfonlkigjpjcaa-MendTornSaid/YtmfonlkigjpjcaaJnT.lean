/-
  A torn frame behind frames: the reading ends there.
-/
import Derived.Test.YtmfonlkigjpjcaaJnF
namespace Go.Proofs.Ytmfonlkigjpjcaa
open Go.Ab
set_option linter.unusedSimpArgs false
set_option linter.unusedVariables false

theorem getD_shift (p t : List UInt8) (j : Nat) : (p ++ t).getD (p.length + j) 0 = t.getD j 0 := by
  simp only [List.getD]
  rw [List.getElem?_append_right (by omega), Nat.add_sub_cancel_left]
theorem headN_shift (p t : List UInt8) : headN (p ++ t) p.length = headN t 0 := by
  have h0 := getD_shift p t 0
  have h1 := getD_shift p t 1
  rw [Nat.add_zero] at h0
  unfold headN
  rw [h0, h1]
theorem frameOf_split (y : List UInt8) : frameOf y = UInt8.ofNat y.length :: UInt8.ofNat (y.length / 256) :: ((y ++ put4 (crcSum y)) ++ [165]) := by
  simp [frameOf]

theorem torn0 (y : List UInt8) (m : Nat) : headN ((frameOf y).take 0 ++ zer m) 0 = 0 := by
  rw [List.take_zero, List.nil_append]; unfold headN; rw [zer_get, zer_get]; rfl
theorem torn1 {y : List UInt8} {k m : Nat} (h2 : y.length < 256) (h0 : 0 < k) : headN ((frameOf y).take k ++ zer m) 0 = y.length := by
  obtain ⟨k, rfl⟩ : ∃ k', k = k' + 1 := ⟨k - 1, by omega⟩
  rw [frameOf_split]
  have h5 : UInt8.ofNat (y.length / 256) = 0 := by rw [Nat.div_eq_of_lt h2]; rfl
  have h6 : (UInt8.ofNat y.length).toNat = y.length := by simp; omega
  rw [h5]
  unfold headN
  cases k with
  | zero =>
    have e1 : (List.take (0 + 1) (UInt8.ofNat y.length :: 0 :: ((y ++ put4 (crcSum y)) ++ [165])) ++ zer m).getD (0 + 1) 0 = 0 := by
      have := getD_shift [UInt8.ofNat y.length] (zer m) 0
      rw [zer_get] at this
      simpa using this
    rw [e1]
    simpa using h6
  | succ k => simpa using h6
theorem torn2 {y : List UInt8} {k m : Nat} (hk : k < y.length + 7) : ((frameOf y).take k ++ zer m).getD (y.length + 6) 0 = 0 := by
  have hfl := frameOf_len y
  have hl : ((frameOf y).take k).length = k := by simp; omega
  have := getD_shift ((frameOf y).take k) (zer m) (y.length + 6 - k)
  rw [hl, zer_get] at this
  rwa [show k + (y.length + 6 - k) = y.length + 6 by omega] at this

theorem take_getD {t : List UInt8} {n j : Nat} (h : j < n) : (t.take n).getD j 0 = t.getD j 0 := by
  simp only [List.getD, List.getElem?_take, h, if_true]
theorem headN_take {t : List UInt8} {n : Nat} (h : 2 ≤ n) : headN (t.take n) 0 = headN t 0 := by
  unfold headN
  rw [take_getD (by omega), take_getD (by omega)]

/-- frame.All over frames and a torn one. -/
theorem c_fAllTorn (xs : List (List UInt8)) (y : List UInt8) (cut N : Nat) (hx : ∀ x ∈ xs, 0 < x.length ∧ x.length ≤ 400) (hn : xs.length ≤ 1000) (hy : 0 < y.length) (hy2 : y.length ≤ 21) (hc : cut < y.length + 7) (hN : 100 ≤ N) (hN2 : N ≤ 1000) :
    Contract Try.prog 46 [.sl false (bys (frs xs ++ ((frameOf y).take cut ++ zer 992).take N))] (.tup [.own 0 0 xs.length, i64 (frs xs).length]) [{ sz := 1, rows := bss xs }] := by
  have hfl := frameOf_len y
  have htl : (((frameOf y).take cut ++ zer 992).take N).length ≤ N := by simp; omega
  have htl2 : N ≤ (((frameOf y).take cut ++ zer 992).take N).length ∨ 992 ≤ (((frameOf y).take cut ++ zer 992).take N).length := by simp [zer_len]; omega
  have hfx := frs_len xs (fun x hm => (hx x hm).2)
  have hh : headN (frs xs ++ ((frameOf y).take cut ++ zer 992).take N) (frs xs).length = headN ((frameOf y).take cut ++ zer 992) 0 := by
    rw [headN_shift, headN_take (by omega)]
  refine c_fAllG false xs _ hx hn (by omega) ?_
  by_cases h0 : cut = 0
  · subst h0
    rw [torn0] at hh
    exact ⟨6, rfl, c_fGetNone false _ (frs xs).length (by rw [List.length_append]; omega) (by rw [List.length_append]; omega) (.inl hh)⟩
  · rw [torn1 (by omega) (by omega)] at hh
    refine ⟨14, rfl, c_fGetShort false _ (frs xs).length y.length (by rw [List.length_append]; omega) hh hy (by omega) (by rw [List.length_append]; omega) ?_⟩
    rw [Nat.add_assoc, getD_shift, take_getD (by omega), torn2 hc]
    decide

end Go.Proofs.Ytmfonlkigjpjcaa
