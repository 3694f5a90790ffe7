/-
  Where words lead: the contracts of galliardref18.Run, Ends.
-/
import Derived.Test.YtbhjmioegdgpnaaTy
import Derived.Test.YtbhjmioegdgpnaaDfa
import Derived.Test.YtbhjmioegdgpnaaRf
namespace Go.Proofs.Ytbhjmioegdgpnaa
open Go.Ab
set_option linter.unusedSimpArgs false
set_option linter.unusedVariables false

theorem runD_append {N : List (List Int)} : ∀ {u v : List Int} {s : Int}, runD N s (u ++ v) = runD N (runD N s u) v
  | [], v, s => rfl
  | k :: u, v, s => by
    rw [List.cons_append, runD, runD]
    by_cases h : s < 0
    · rw [if_pos h, if_pos h, runD_neg h]
    · rw [if_neg h, if_neg h, runD_append]
theorem runD_stop {N : List (List Int)} {w : List Int} {n : Nat} {s : Int} (h : runD N s (w.take n) < 0) : runD N s w = runD N s (w.take n) := by
  conv => lhs; rw [← List.take_append_drop n w]
  rw [runD_append, runD_neg h]
theorem runD_next {N : List (List Int)} {w : List Int} {n : Nat} {s : Int} (hn : n < w.length) (h : 0 ≤ runD N s (w.take n)) : runD N s (w.take (n + 1)) = toD N (runD N s (w.take n)) (w.getD n 0) := by
  have e : w.take (n + 1) = w.take n ++ [w.getD n 0] := by
    rw [List.take_add_one, List.getElem?_eq_getElem hn]
    simp [List.getD, List.getElem?_eq_getElem hn]
  rw [e, runD_app, if_neg (by omega)]
theorem toD_bad {L k : Nat} {N : List (List Int)} (h : NOk L k N) {s c : Int} (hs : 0 ≤ s) (hb : c < 0 ∨ (L : Int) ≤ c ∨ (k : Int) ≤ s) : toD N s c = -1 := by
  unfold toD
  split
  · rfl
  · rename_i hn
    have hl := h.len
    have := (h.get (s := s.toNat) (by omega)).1
    omega
theorem toD_bad1 (N : List (List Int)) (s c : Int) (h : s < 0 ∨ (N.length : Int) ≤ s ∨ c < 0) : toD N s c = -1 := by
  unfold toD
  rw [if_pos]
  rcases h with h | h | h
  · exact .inl h
  · exact .inr (.inl h)
  · exact .inr (.inr (.inl h))
theorem toD_good {L k : Nat} {N : List (List Int)} (h : NOk L k N) {s c : Nat} (hs : s < k) (hc : c < L) : toD N s c = (N.getD s []).getD c 0 := by
  have hl := h.len
  have := (h.get hs).1
  unfold toD
  rw [if_neg (by rw [Int.toNat_natCast]; omega), Int.toNat_natCast, Int.toNat_natCast]

end Go.Proofs.Ytbhjmioegdgpnaa
