/-
  Plain facts for FrameTorn: a frame torn, a frame bent.
-/
import Derived.Test.YtfdkihapckfjhaaFrPlain
import Derived.Test.YtfdkihapckfjhaaFrLaw
namespace Go.Proofs.Ytfdkihapckfjhaa
open Go.Ab
set_option linter.unusedSimpArgs false
set_option linter.unusedVariables false

theorem frame_split (y : List UInt8) : frameOf y = UInt8.ofNat y.length :: UInt8.ofNat (y.length / 256) :: ((y ++ put4 (crcSum y)) ++ [165]) := by
  simp [frameOf]

theorem read_split {t : List UInt8} {n : Nat} (a b e : UInt8) (ht : t.length = n + 4) :
    headN (a :: b :: (t ++ [e])) 0 = a.toNat + b.toNat * 256 ∧ (a :: b :: (t ++ [e])).getD (n + 6) 0 = e ∧
    get4 (a :: b :: (t ++ [e])) (n + 2) = get4 t n ∧ ((a :: b :: (t ++ [e])).drop 2).take n = t.take n := by
  have g : ∀ j, j < 4 → (a :: b :: (t ++ [e])).getD (n + 2 + j) 0 = t.getD (n + j) 0 := fun j hj => by
    rw [show n + 2 + j = (n + j) + 1 + 1 by omega]
    simp only [List.getD, List.getElem?_cons_succ]
    rw [List.getElem?_append_left (by omega)]
  refine ⟨rfl, ?_, ?_, ?_⟩
  · rw [show n + 6 = (n + 4) + 1 + 1 by omega]
    simp only [List.getD, List.getElem?_cons_succ]
    rw [List.getElem?_append_right (by omega), ht]; simp
  · have g0 := g 0 (by omega)
    simp only [Nat.add_zero] at g0
    unfold get4
    rw [g0, g 1 (by omega), g 2 (by omega), g 3 (by omega)]
  · rw [show (a :: b :: (t ++ [e])).drop 2 = t ++ [e] from rfl, List.take_append_of_le_length (by omega)]

/-- A frame of which one byte behind its count is another one: bent in its bytes or its sum, or at its end. -/
theorem frame_bent {y : List UInt8} {n k : Nat} {x : UInt8} (hn : y.length = n) (h0 : n < 256) (hk : 2 ≤ k) (hk' : k < n + 7) (hx : x ≠ 0) (B : List UInt8)
    (hB : B = (frameOf y).set k ((frameOf y).getD k 0 ^^^ x)) :
    headN B 0 = n ∧ (((B.getD (0 + n + 6) 0).toNat : Int) ≠ 165 ∨
      (((B.getD (0 + n + 6) 0).toNat : Int) = 165 ∧ (get4 B (0 + n + 2) != crcSum ((B.drop (0 + 2)).take n)) = true)) := by
  subst hn
  obtain ⟨j, rfl⟩ : ∃ j, k = j + 2 := ⟨k - 2, by omega⟩
  have hs : (y ++ put4 (crcSum y)).length = y.length + 4 := by simp [put4_len]
  have hh : (UInt8.ofNat y.length).toNat + (UInt8.ofNat (y.length / 256)).toNat * 256 = y.length := by
    have h1 : (UInt8.ofNat y.length).toNat = y.length % 256 := by simp
    have h2 : (UInt8.ofNat (y.length / 256)).toNat = y.length / 256 % 256 := by simp
    rw [h1, h2]; omega
  rw [frame_split] at hB
  have hgd : (UInt8.ofNat y.length :: UInt8.ofNat (y.length / 256) :: ((y ++ put4 (crcSum y)) ++ [165])).getD (j + 2) 0 = ((y ++ put4 (crcSum y)) ++ [165]).getD j 0 := rfl
  rw [hgd] at hB
  have hst : ∀ v, (UInt8.ofNat y.length :: UInt8.ofNat (y.length / 256) :: ((y ++ put4 (crcSum y)) ++ [165])).set (j + 2) v = UInt8.ofNat y.length :: UInt8.ofNat (y.length / 256) :: (((y ++ put4 (crcSum y)) ++ [165]).set j v) := fun v => rfl
  rw [hst] at hB
  simp only [Nat.zero_add]
  by_cases hj : j < y.length + 4
  · have hg : ((y ++ put4 (crcSum y)) ++ [165]).getD j 0 = (y ++ put4 (crcSum y)).getD j 0 := by
      simp only [List.getD]; rw [List.getElem?_append_left (by omega)]
    rw [hg, List.set_append_left _ _ (by omega)] at hB
    have hu := set_unsealed (y := y) hj hx _ rfl
    obtain ⟨r1, r2, r3, r4⟩ := read_split (t := (y ++ put4 (crcSum y)).set j ((y ++ put4 (crcSum y)).getD j 0 ^^^ x)) (n := y.length) (UInt8.ofNat y.length) (UInt8.ofNat (y.length / 256)) 165 (by rw [List.length_set, hs])
    rw [← hB] at r1 r2 r3 r4
    refine ⟨by rw [r1, hh], .inr ⟨by rw [r2]; rfl, ?_⟩⟩
    rw [r3, r4, bne_iff_ne]
    exact fun e => hu e.symm
  · have hj4 : j = y.length + 4 := by omega
    subst hj4
    have hg : ((y ++ put4 (crcSum y)) ++ [165]).getD (y.length + 4) 0 = 165 := by
      simp only [List.getD]; rw [List.getElem?_append_right (by omega), hs]; simp
    have h2 : ((y ++ put4 (crcSum y)) ++ [165]).set (y.length + 4) (165 ^^^ x) = (y ++ put4 (crcSum y)) ++ [165 ^^^ x] := by
      rw [List.set_append_right _ _ (by omega), hs]; simp
    rw [hg, h2] at hB
    obtain ⟨r1, r2, r3, r4⟩ := read_split (t := y ++ put4 (crcSum y)) (n := y.length) (UInt8.ofNat y.length) (UInt8.ofNat (y.length / 256)) (165 ^^^ x) hs
    rw [← hB] at r1 r2
    refine ⟨by rw [r1, hh], .inl ?_⟩
    rw [r2]
    intro h
    have h3 : (165 ^^^ x : UInt8) = 165 := by
      apply UInt8.toNat_inj.1
      have : ((165 : UInt8).toNat : Int) = 165 := rfl
      omega
    apply hx
    have := congrArg (fun z => (165 : UInt8) ^^^ z) h3
    simp only [← UInt8.xor_assoc, UInt8.xor_self, UInt8.zero_xor] at this
    exact this

/-- A torn frame: behind its first k bytes noughts. -/
theorem frame_torn {y : List UInt8} {n k : Nat} (hn : y.length = n) (h0 : n < 256) (hk : k < n + 7) (h60 : n < 50) :
    (k = 0 → headN ((frameOf y).take k ++ List.replicate 60 0) 0 = 0) ∧
    (k ≠ 0 → headN ((frameOf y).take k ++ List.replicate 60 0) 0 = n ∧ ((((frameOf y).take k ++ List.replicate 60 0).getD (0 + n + 6) 0).toNat : Int) ≠ 165) := by
  subst hn
  have hfl := frameOf_len y
  refine ⟨fun h => by subst h; rw [List.take_zero, List.nil_append]; unfold headN; simp, fun h => ⟨?_, ?_⟩⟩
  · rw [frame_split]
    have h1 : (UInt8.ofNat y.length).toNat = y.length % 256 := by simp
    have h2 : (UInt8.ofNat (y.length / 256)).toNat = y.length / 256 % 256 := by simp
    obtain ⟨j, rfl⟩ : ∃ j, k = j + 1 := ⟨k - 1, by omega⟩
    cases j with
    | zero =>
      show (UInt8.ofNat y.length).toNat + (0 : UInt8).toNat * 256 = y.length
      rw [h1]; simp; omega
    | succ j =>
      show (UInt8.ofNat y.length).toNat + (UInt8.ofNat (y.length / 256)).toNat * 256 = y.length
      rw [h1, h2]; omega
  · have : ((frameOf y).take k ++ List.replicate 60 0).getD (0 + y.length + 6) 0 = 0 := by
      simp only [List.getD]
      rw [List.getElem?_append_right (by simp; omega), List.getElem?_replicate, if_pos (by simp; omega)]; rfl
    rw [this]; decide

end Go.Proofs.Ytfdkihapckfjhaa
