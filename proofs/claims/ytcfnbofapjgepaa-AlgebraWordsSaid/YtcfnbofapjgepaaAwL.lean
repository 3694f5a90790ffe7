/-
  What algebra.Of says of two, in words.
-/
import Derived.Test.YtcfnbofapjgepaaAo
import Derived.Test.YtcfnbofapjgepaaMo
namespace Go.Proofs.Ytcfnbofapjgepaa
open Go.Ab
set_option linter.unusedSimpArgs false
set_option linter.unusedVariables false

def noDfa : D := .agg [i64 0, i64 0, .sl true [], .sl true []]

theorem of_says {L k m : Nat} {N M : List (List Int)} (hN : NOk L k N) (hM : NOk L m M) {a b : Nat} (ha : a < k) (hb : b < m) (F G : List Bool) (hkm : (k + 1) * (m + 1) ≤ 2000) (kd : Int) :
    (0 ≤ (clsF (pFin kd F G (pAll N M ((a : Int), (b : Int)) L)) (pNx N M L (pAll N M ((a : Int), (b : Int)) L))).getD 0 0 ∧ ∃ (j : Nat) (H : List Bool) (Y : List (List Int)), 1 ≤ j ∧ j ≤ 2000 ∧ NOk L j Y ∧ H.length = j ∧
      ofR L 0 (pFin kd F G (pAll N M ((a : Int), (b : Int)) L)) (pNx N M L (pAll N M ((a : Int), (b : Int)) L)) = .tup [dfaD L 0 H Y, i64 0] ∧ ∀ w, endsD H Y ((0 : Nat) : Int) w = holdsB kd (endsD F N a w) (endsD G M b w)) ∨
    ((clsF (pFin kd F G (pAll N M ((a : Int), (b : Int)) L)) (pNx N M L (pAll N M ((a : Int), (b : Int)) L))).getD 0 0 < 0 ∧
      ofR L 0 (pFin kd F G (pAll N M ((a : Int), (b : Int)) L)) (pNx N M L (pAll N M ((a : Int), (b : Int)) L)) = .tup [noDfa, i64 13] ∧ ∀ w, holdsB kd (endsD F N a w) (endsD G M b w) = false) := by
  have hA := PA.mk (Q := pAll N M ((a : Int), (b : Int)) L) hN hM ha hb rfl
  generalize pAll N M ((a : Int), (b : Int)) L = Q at *
  have hlen := hA.piQ.len
  obtain ⟨hq0, hq1⟩ := hA.q0
  have hok := hA.ok
  have hPF : (pFin kd F G Q).length = Q.length := by simp [pFin]
  have hlang : ∀ w, endsD (pFin kd F G Q) (pNx N M L Q) ((0 : Nat) : Int) w = holdsB kd (endsD F N a w) (endsD G M b w) := fun w => by
    rw [hA.lang kd F G w 0 hq0, hq1]
  generalize pFin kd F G Q = P at *
  generalize pNx N M L Q = X at *
  unfold ofR
  by_cases h0 : 0 ≤ (clsF P X).getD 0 0
  · left
    refine ⟨h0, ?_⟩
    rw [if_pos h0]
    have hO := OA.mk (Q := oAll X (clsF P X) 0) hok hPF hq0 h0 rfl
    generalize oAll X (clsF P X) 0 = R at *
    obtain ⟨r0, r1⟩ := hO.q0
    have hR := hO.lenQ
    exact ⟨R.length, oFin P R, oNx X (clsF P X) R, r0, by omega, hO.ok2, hO.hF2, rfl, fun w => by rw [hO.lang w 0 0 r0 r1, hlang]⟩
  · right
    refine ⟨by omega, by rw [if_neg h0]; rfl, fun w => ?_⟩
    have hd : (liveL P X).getD 0 false = false := by
      cases hx : (liveL P X).getD 0 false
      · rfl
      · exact absurd ((clsF_live hok hPF hq0).1 hx) h0
    rw [← hlang]
    exact dead_word hok hPF hq0 hd w

end Go.Proofs.Ytcfnbofapjgepaa
