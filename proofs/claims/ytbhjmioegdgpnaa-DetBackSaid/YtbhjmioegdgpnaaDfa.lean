/-
  States of which each interaction leads to one, by any moves: plain functions.
-/
import Derived.Test.YtbhjmioegdgpnaaLive
import Derived.Test.YtbhjmioegdgpnaaLow
namespace Go.Proofs.Ytbhjmioegdgpnaa
open Go.Ab
set_option linter.unusedSimpArgs false
set_option linter.unusedVariables false

/-- Lists of numbers, truth values, as rows. -/
def iis (l : List (List Int)) : List (List D) := l.map fun x => [.sl false (ints x)]
theorem iis_len (l : List (List Int)) : (iis l).length = l.length := by simp [iis]
theorem iis_row (l : List (List Int)) : (∀ row ∈ iis l, row.length = 1) = True := by simp [iis]
theorem iis_get {l : List (List Int)} {i : Nat} (h : i < l.length) : (iis l).getD i [] = [.sl false (ints (l.getD i []))] := by
  simp [iis, List.getD, List.getElem?_eq_getElem h]
theorem iis_app (l m : List (List Int)) : iis l ++ iis m = iis (l ++ m) := by simp [iis]
theorem iis_take (l : List (List Int)) (k : Nat) : (iis l).take k = iis (l.take k) := by simp [iis]
theorem iis_one (z : List Int) : [[D.sl false (ints z)]] = iis [z] := rfl
def bos (l : List Bool) : List (List D) := l.map fun b => [bo b]
theorem bos_len (l : List Bool) : (bos l).length = l.length := by simp [bos]
theorem bos_row (l : List Bool) : (∀ row ∈ bos l, row.length = 1) = True := by
  simp only [bos, List.mem_map, eq_iff_iff, iff_true]
  rintro row ⟨x, _, rfl⟩; rfl
theorem bos_get {l : List Bool} {i : Nat} (h : i < l.length) : (bos l).getD i [] = [bo (l.getD i false)] := by
  simp [bos, List.getD, List.getElem?_eq_getElem h]
theorem bos_app (l m : List Bool) : bos l ++ bos m = bos (l ++ m) := by simp [bos]
theorem bos_take (l : List Bool) (k : Nat) : (bos l).take k = bos (l.take k) := by simp [bos]
theorem bos_one (b : Bool) : [[bo b]] = bos [b] := rfl
theorem bos_nil (l : List Bool) : (bos l = []) = (l = []) := by simp [bos]

/-- Its parts, by picks. -/
def labD (z : Int) : Nat := lowB 3 z + lowB 1 (z.fdiv (2 ^ min 2 IntKind.i64.bits))
def numD (z : Int) : Nat := lowB 7 z + 1
def startD (z : Int) : Nat := lowB 255 (z.fdiv (2 ^ min 3 IntKind.i64.bits)) % numD z
theorem labD_le (z : Int) : labD z ≤ 4 := by
  have h1 := lowB_le 3 z (by decide)
  have h2 := lowB_le 1 (z.fdiv (2 ^ min 2 IntKind.i64.bits)) (by decide)
  unfold labD; omega
theorem numD_le (z : Int) : 1 ≤ numD z ∧ numD z ≤ 8 := by
  have h1 := lowB_le 7 z (by decide)
  unfold numD; omega
theorem startD_lt (z : Int) : startD z < numD z := Nat.mod_lt _ (by have := numD_le z; omega)
/-- Where it may end. -/
def finD (f : Int) (n : Nat) : List Bool := (List.range n).map fun i => ((lowB 1 (f.fdiv (2 ^ min i IntKind.i64.bits)) : Int) == 1)
theorem finD_len (f : Int) (n : Nat) : (finD f n).length = n := by simp [finD]
theorem finD_succ (f : Int) (n : Nat) : finD f (n + 1) = finD f n ++ [((lowB 1 (f.fdiv (2 ^ min n IntKind.i64.bits)) : Int) == 1)] := by simp [finD, List.range_succ]
/-- Nowhere. -/
def negs (n : Nat) : List Int := List.replicate n (-1)
def nx0 (L n : Nat) : List (List Int) := List.replicate n (negs L)
def setN (N : List (List Int)) (f c : Nat) (t : Int) : List (List Int) := N.set f ((N.getD f []).set c t)
def mvF (k : Nat) (x : Int × Int × Int) : Nat := lowB 255 x.1 % k
def mvT (k : Nat) (x : Int × Int × Int) : Nat := lowB 255 x.2.1 % k
def mvC (L : Nat) (x : Int × Int × Int) : Nat := lowB 255 x.2.2 % L
/-- So many moves. -/
def nxD (L k : Nat) (l : List (Int × Int × Int)) : Nat → List (List Int)
  | 0 => nx0 L k
  | i + 1 => setN (nxD L k l i) (mvF k (l.getD i (0, 0, 0))) (mvC L (l.getD i (0, 0, 0))) (mvT k (l.getD i (0, 0, 0)))
/-- States that may be. -/
structure NOk (L k : Nat) (N : List (List Int)) : Prop where
  len : N.length = k
  row : ∀ r ∈ N, r.length = L ∧ ∀ t ∈ r, -1 ≤ t ∧ t < (k : Int)
theorem NOk.get {L k : Nat} {N : List (List Int)} (h : NOk L k N) {s : Nat} (hs : s < k) : (N.getD s []).length = L ∧ ∀ t ∈ N.getD s [], -1 ≤ t ∧ t < (k : Int) := by
  have hl := h.len
  have e : N.getD s [] = N[s]'(by omega) := by simp [List.getD, List.getElem?_eq_getElem (show s < N.length by omega)]
  rw [e]; exact h.row _ (List.getElem_mem _)
theorem nx0_ok (L : Nat) {k : Nat} (hk : 1 ≤ k) : NOk L k (nx0 L k) := by
  refine ⟨by simp [nx0], fun r hr => ?_⟩
  rw [List.eq_of_mem_replicate hr]
  refine ⟨by simp [negs], fun t ht => ?_⟩
  rw [List.eq_of_mem_replicate ht]; omega
theorem setN_ok {L k : Nat} {N : List (List Int)} (h : NOk L k N) {f c t : Nat} (hf : f < k) (ht : t < k) : NOk L k (setN N f c t) := by
  refine ⟨by simp [setN, h.len], fun r hr => ?_⟩
  rcases List.mem_or_eq_of_mem_set hr with q | q
  · exact h.row r q
  · obtain ⟨g1, g2⟩ := h.get hf
    rw [q]
    refine ⟨by simpa using g1, fun u hu => ?_⟩
    rcases List.mem_or_eq_of_mem_set hu with q2 | q2
    · exact g2 u q2
    · rw [q2]; omega
theorem nxD_ok {L k : Nat} (hk : 1 ≤ k) (l : List (Int × Int × Int)) : ∀ i, NOk L k (nxD L k l i)
  | 0 => nx0_ok L hk
  | i + 1 => setN_ok (nxD_ok hk l i) (Nat.mod_lt _ hk) (Nat.mod_lt _ hk)

/-- All its moves. -/
def nextD (L k : Nat) (l : List (Int × Int × Int)) : List (List Int) := nxD L k l (if L = 0 then 0 else min l.length 24)
theorem nextD_ok {L k : Nat} (hk : 1 ≤ k) (l : List (Int × Int × Int)) : NOk L k (nextD L k l) := nxD_ok hk l _

/-- Where an interaction leads; -1: nowhere. -/
def toD (N : List (List Int)) (s k : Int) : Int := if s < 0 ∨ (N.length : Int) ≤ s ∨ k < 0 ∨ ((N.getD s.toNat []).length : Int) ≤ k then -1 else (N.getD s.toNat []).getD k.toNat 0
def runD (N : List (List Int)) : Int → List Int → Int
  | s, [] => s
  | s, k :: w => if s < 0 then s else runD N (toD N s k) w
def endsD (F : List Bool) (N : List (List Int)) (s : Int) (w : List Int) : Bool := decide (0 ≤ runD N s w) && F.getD (runD N s w).toNat false
theorem toD_ok {L k : Nat} {N : List (List Int)} (h : NOk L k N) (s c : Int) : -1 ≤ toD N s c ∧ toD N s c < (k : Int) ∨ toD N s c = -1 := by
  unfold toD
  split
  · exact .inr rfl
  · rename_i hn
    have hl := h.len
    have hs : s.toNat < k := by omega
    obtain ⟨g1, g2⟩ := h.get hs
    have hc : c.toNat < (N.getD s.toNat []).length := by omega
    left
    have e : (N.getD s.toNat []).getD c.toNat 0 = (N.getD s.toNat [])[c.toNat] := by
      generalize N.getD s.toNat [] = r at hc ⊢
      simp [List.getD, List.getElem?_eq_getElem hc]
    rw [e]; exact g2 _ (List.getElem_mem _)

theorem runD_neg {N : List (List Int)} : ∀ {w : List Int} {s : Int}, s < 0 → runD N s w = s
  | [], s, _ => rfl
  | k :: w, s, h => by rw [runD, if_pos h]
theorem runD_app {N : List (List Int)} : ∀ {w : List Int} {s : Int} {k : Int}, runD N s (w ++ [k]) = if runD N s w < 0 then runD N s w else toD N (runD N s w) k
  | [], s, k => by by_cases h : s < 0 <;> simp [runD, h]
  | x :: w, s, k => by
    rw [List.cons_append, runD, runD]
    by_cases h : s < 0
    · rw [if_pos h, if_pos h, if_pos h]
    · rw [if_neg h, if_neg h, runD_app]
end Go.Proofs.Ytbhjmioegdgpnaa
