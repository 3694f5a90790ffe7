/-
  What algebra.Of says of two, in words.
-/
import Derived.Test.YtcfnbofapjgepaaAo
import Derived.Test.YtcfnbofapjgepaaMo
namespace Go.Proofs.Ytcfnbofapjgepaa
open Go.Ab
set_option linter.unusedSimpArgs false
set_option linter.unusedVariables false

def noDfa : D := .agg [i64 0, i64 0, .sl true [], .sl true []]

theorem ofR_says {L k : Nat} {N : List (List Int)} (h : NOk L k N) {s : Nat} (hs : s < k) (F : List Bool) (hF : F.length = k) (hk : k ≤ 2000) :
    (0 ≤ (clsF F N).getD s 0 ∧ ∃ (j : Nat) (H : List Bool) (Y : List (List Int)), 1 ≤ j ∧ j ≤ 2000 ∧ NOk L j Y ∧ H.length = j ∧ ofR L s F N = .tup [dfaD L 0 H Y, i64 0] ∧ ∀ w, endsD H Y ((0 : Nat) : Int) w = endsD F N s w) ∨
    ((clsF F N).getD s 0 < 0 ∧ ofR L s F N = .tup [noDfa, i64 13] ∧ ∀ w, endsD F N s w = false) := by
  unfold ofR
  by_cases h0 : 0 ≤ (clsF F N).getD s 0
  · left
    refine ⟨h0, ?_⟩
    rw [if_pos h0]
    have hO := OA.mk (Q := oAll N (clsF F N) s) h hF hs h0 rfl
    generalize oAll N (clsF F N) s = R at *
    obtain ⟨r0, r1⟩ := hO.q0
    have hR := hO.lenQ
    exact ⟨R.length, oFin F R, oNx N (clsF F N) R, r0, by omega, hO.ok2, hO.hF2, rfl, fun w => hO.lang w 0 s r0 r1⟩
  · right
    refine ⟨by omega, by rw [if_neg h0]; rfl, fun w => ?_⟩
    have hd : (liveL F N).getD s false = false := by
      cases hx : (liveL F N).getD s false
      · rfl
      · exact absurd ((clsF_live h hF hs).1 hx) h0
    exact dead_word h hF hs hd w

theorem runD_bd {L k : Nat} {N : List (List Int)} (h : NOk L k N) : ∀ (w : List Int) (s : Int), -1 ≤ s → s < (k : Int) → -1 ≤ runD N s w ∧ runD N s w < (k : Int)
  | [], s, h1, h2 => ⟨h1, h2⟩
  | a :: w, s, h1, h2 => by
    rw [runD]
    split
    · exact ⟨h1, h2⟩
    · have := toD_ok h s a
      exact runD_bd h w _ (by omega) (by omega)
theorem ends_split {F : List Bool} {N : List (List Int)} (s : Int) (u v : List Int) : endsD F N s (u ++ v) = endsD F N (runD N s u) v := by
  unfold endsD; rw [runD_append]

/-- What words begin with. -/
theorem begins_says {L k : Nat} {N : List (List Int)} (h : NOk L k N) {s : Nat} (hs : s < k) (F : List Bool) (hF : F.length = k) (hk : k ≤ 2000) (h0 : 0 ≤ (clsF F N).getD s 0) :
    ∃ (j : Nat) (H : List Bool) (Y : List (List Int)), 1 ≤ j ∧ j ≤ 2000 ∧ NOk L j Y ∧ H.length = j ∧ ofR L 0 (List.replicate (oAll N (clsF F N) s).length true) (oNx N (clsF F N) (oAll N (clsF F N) s)) = .tup [dfaD L 0 H Y, i64 0] ∧
      ∀ w, endsD H Y ((0 : Nat) : Int) w = (decide (0 ≤ runD N s w) && (liveL F N).getD (runD N s w).toNat false) := by
  have hO := OA.mk (Q := oAll N (clsF F N) s) h hF hs h0 rfl
  generalize oAll N (clsF F N) s = Q at *
  obtain ⟨q0, q1⟩ := hO.q0
  have hok2 := hO.ok2
  have hF2 := hO.hF2
  have hlang := fun w => hO.lang w 0 s q0 q1
  have hal := fun i hi => hO.alive (i := i) hi
  have hQk := hO.lenQ
  generalize oNx N (clsF F N) Q = Y at *
  generalize oFin F Q = G at *
  generalize Q.length = n at *
  have hT : (List.replicate n true).length = n := by simp
  have hTg : ∀ i, i < n → (List.replicate n true).getD i false = true := fun i hi => by simp [List.getD, hi]
  have key : ∀ w, endsD (List.replicate n true) Y ((0 : Nat) : Int) w = (decide (0 ≤ runD N s w) && (liveL F N).getD (runD N s w).toNat false) := fun w => by
    have b1 := runD_bd hok2 w ((0 : Nat) : Int) (by omega) (by omega)
    have b2 := runD_bd h w (s : Int) (by omega) (by omega)
    have e1 : endsD (List.replicate n true) Y ((0 : Nat) : Int) w = decide (0 ≤ runD Y ((0 : Nat) : Int) w) := by
      unfold endsD
      by_cases g : 0 ≤ runD Y ((0 : Nat) : Int) w
      · rw [hTg _ (by omega), Bool.and_true]
      · rw [decide_eq_false g, Bool.false_and]
    rw [e1, Bool.eq_iff_iff, decide_eq_true_eq, Bool.and_eq_true, decide_eq_true_eq]
    constructor
    · intro g
      obtain ⟨x, hx⟩ := Int.eq_ofNat_of_zero_le g
      have hxn : x < n := by omega
      obtain ⟨v, hv⟩ := (live_word hok2 hF2 hxn).1 (hal x hxn)
      have h2 : endsD F N s (w ++ v) = true := by rw [← hlang, ends_split, hx]; exact hv
      rw [ends_split] at h2
      have h3 : 0 ≤ runD N s w := by
        rcases Int.lt_or_le (runD N s w) 0 with q | q
        · rw [ends_neg q] at h2; cases h2
        · exact q
      obtain ⟨y, hy⟩ := Int.eq_ofNat_of_zero_le h3
      rw [hy] at h2 h3 ⊢
      exact ⟨h3, by rw [Int.toNat_natCast]; exact (live_word h hF (by omega)).2 ⟨v, h2⟩⟩
    · rintro ⟨g1, g2⟩
      obtain ⟨y, hy⟩ := Int.eq_ofNat_of_zero_le g1
      rw [hy, Int.toNat_natCast] at g2
      obtain ⟨v, hv⟩ := (live_word h hF (by omega)).1 g2
      have h2 : endsD G Y ((0 : Nat) : Int) (w ++ v) = true := by rw [hlang, ends_split, hy]; exact hv
      rw [ends_split] at h2
      rcases Int.lt_or_le (runD Y ((0 : Nat) : Int) w) 0 with q | q
      · rw [ends_neg q] at h2; cases h2
      · exact q
  rcases ofR_says hok2 q0 (List.replicate n true) hT (by omega) with ⟨h1, j, H, Z, e1, e2, e3, e4, e5, e6⟩ | ⟨h1, e1, e2⟩
  · exact ⟨j, H, Z, e1, e2, e3, e4, e5, fun w => by rw [e6, key]⟩
  · exfalso
    have := (clsF_live hok2 hT q0).1 (liveL_fin (hTg 0 q0))
    omega

end Go.Proofs.Ytcfnbofapjgepaa
