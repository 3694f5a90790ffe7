/-
  States of which each interaction leads to one, by any moves: plain functions.
-/
import Derived.Test.YtbhjmioegdgpnaaLive
import Derived.Test.YtbhjmioegdgpnaaLow
namespace Go.Proofs.Ytbhjmioegdgpnaa
open Go.Ab
set_option linter.unusedSimpArgs false
set_option linter.unusedVariables false

def bos (l : List Bool) : List (List D) := l.map fun b => [bo b]
theorem bos_len (l : List Bool) : (bos l).length = l.length := by simp [bos]
theorem bos_get {l : List Bool} {i : Nat} (h : i < l.length) : (bos l).getD i [] = [bo (l.getD i false)] := by
  simp [bos, List.getD, List.getElem?_eq_getElem h]
theorem bos_take (l : List Bool) (k : Nat) : (bos l).take k = bos (l.take k) := by simp [bos]
def numD (z : Int) : Nat := lowB 7 z + 1
def startD (z : Int) : Nat := lowB 255 (z.fdiv (2 ^ min 3 IntKind.i64.bits)) % numD z
theorem numD_le (z : Int) : 1 ≤ numD z ∧ numD z ≤ 8 := by
  have h1 := lowB_le 7 z (by decide)
  unfold numD; omega
theorem startD_lt (z : Int) : startD z < numD z := Nat.mod_lt _ (by have := numD_le z; omega)
/-- Where it may end. -/
def finD (f : Int) (n : Nat) : List Bool := (List.range n).map fun i => ((lowB 1 (f.fdiv (2 ^ min i IntKind.i64.bits)) : Int) == 1)
theorem finD_len (f : Int) (n : Nat) : (finD f n).length = n := by simp [finD]
def mvF (k : Nat) (x : Int × Int × Int) : Nat := lowB 255 x.1 % k
def mvT (k : Nat) (x : Int × Int × Int) : Nat := lowB 255 x.2.1 % k
/-- States that may be. -/
structure NOk (L k : Nat) (N : List (List Int)) : Prop where
  len : N.length = k
  row : ∀ r ∈ N, r.length = L ∧ ∀ t ∈ r, -1 ≤ t ∧ t < (k : Int)
theorem NOk.get {L k : Nat} {N : List (List Int)} (h : NOk L k N) {s : Nat} (hs : s < k) : (N.getD s []).length = L ∧ ∀ t ∈ N.getD s [], -1 ≤ t ∧ t < (k : Int) := by
  have hl := h.len
  have e : N.getD s [] = N[s]'(by omega) := by simp [List.getD, List.getElem?_eq_getElem (show s < N.length by omega)]
  rw [e]; exact h.row _ (List.getElem_mem _)
end Go.Proofs.Ytbhjmioegdgpnaa
