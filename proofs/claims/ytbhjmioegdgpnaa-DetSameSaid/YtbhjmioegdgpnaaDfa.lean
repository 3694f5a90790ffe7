/-
  States of which each interaction leads to one, by any moves: plain functions.
-/
import Derived.Test.YtbhjmioegdgpnaaLive
import Derived.Test.YtbhjmioegdgpnaaLow
namespace Go.Proofs.Ytbhjmioegdgpnaa
open Go.Ab
set_option linter.unusedSimpArgs false
set_option linter.unusedVariables false

/-- Lists of numbers, truth values, as rows. -/
def iis (l : List (List Int)) : List (List D) := l.map fun x => [.sl false (ints x)]
theorem iis_len (l : List (List Int)) : (iis l).length = l.length := by simp [iis]
theorem iis_row (l : List (List Int)) : (∀ row ∈ iis l, row.length = 1) = True := by simp [iis]
theorem iis_get {l : List (List Int)} {i : Nat} (h : i < l.length) : (iis l).getD i [] = [.sl false (ints (l.getD i []))] := by
  simp [iis, List.getD, List.getElem?_eq_getElem h]
theorem iis_app (l m : List (List Int)) : iis l ++ iis m = iis (l ++ m) := by simp [iis]
theorem iis_take (l : List (List Int)) (k : Nat) : (iis l).take k = iis (l.take k) := by simp [iis]
theorem iis_one (z : List Int) : [[D.sl false (ints z)]] = iis [z] := rfl
def bos (l : List Bool) : List (List D) := l.map fun b => [bo b]
theorem bos_len (l : List Bool) : (bos l).length = l.length := by simp [bos]
theorem bos_get {l : List Bool} {i : Nat} (h : i < l.length) : (bos l).getD i [] = [bo (l.getD i false)] := by
  simp [bos, List.getD, List.getElem?_eq_getElem h]
theorem bos_app (l m : List Bool) : bos l ++ bos m = bos (l ++ m) := by simp [bos]
theorem bos_take (l : List Bool) (k : Nat) : (bos l).take k = bos (l.take k) := by simp [bos]
theorem bos_one (b : Bool) : [[bo b]] = bos [b] := rfl
def numD (z : Int) : Nat := lowB 7 z + 1
def startD (z : Int) : Nat := lowB 255 (z.fdiv (2 ^ min 3 IntKind.i64.bits)) % numD z
theorem numD_le (z : Int) : 1 ≤ numD z ∧ numD z ≤ 8 := by
  have h1 := lowB_le 7 z (by decide)
  unfold numD; omega
theorem startD_lt (z : Int) : startD z < numD z := Nat.mod_lt _ (by have := numD_le z; omega)
/-- Where it may end. -/
def finD (f : Int) (n : Nat) : List Bool := (List.range n).map fun i => ((lowB 1 (f.fdiv (2 ^ min i IntKind.i64.bits)) : Int) == 1)
theorem finD_len (f : Int) (n : Nat) : (finD f n).length = n := by simp [finD]
/-- Nowhere. -/
def negs (n : Nat) : List Int := List.replicate n (-1)
def mvF (k : Nat) (x : Int × Int × Int) : Nat := lowB 255 x.1 % k
def mvT (k : Nat) (x : Int × Int × Int) : Nat := lowB 255 x.2.1 % k
/-- States that may be. -/
structure NOk (L k : Nat) (N : List (List Int)) : Prop where
  len : N.length = k
  row : ∀ r ∈ N, r.length = L ∧ ∀ t ∈ r, -1 ≤ t ∧ t < (k : Int)
theorem NOk.get {L k : Nat} {N : List (List Int)} (h : NOk L k N) {s : Nat} (hs : s < k) : (N.getD s []).length = L ∧ ∀ t ∈ N.getD s [], -1 ≤ t ∧ t < (k : Int) := by
  have hl := h.len
  have e : N.getD s [] = N[s]'(by omega) := by simp [List.getD, List.getElem?_eq_getElem (show s < N.length by omega)]
  rw [e]; exact h.row _ (List.getElem_mem _)
/-- Where an interaction leads; -1: nowhere. -/
def toD (N : List (List Int)) (s k : Int) : Int := if s < 0 ∨ (N.length : Int) ≤ s ∨ k < 0 ∨ ((N.getD s.toNat []).length : Int) ≤ k then -1 else (N.getD s.toNat []).getD k.toNat 0
def runD (N : List (List Int)) : Int → List Int → Int
  | s, [] => s
  | s, k :: w => if s < 0 then s else runD N (toD N s k) w
def endsD (F : List Bool) (N : List (List Int)) (s : Int) (w : List Int) : Bool := decide (0 ≤ runD N s w) && F.getD (runD N s w).toNat false
theorem toD_ok {L k : Nat} {N : List (List Int)} (h : NOk L k N) (s c : Int) : -1 ≤ toD N s c ∧ toD N s c < (k : Int) ∨ toD N s c = -1 := by
  unfold toD
  split
  · exact .inr rfl
  · rename_i hn
    have hl := h.len
    have hs : s.toNat < k := by omega
    obtain ⟨g1, g2⟩ := h.get hs
    have hc : c.toNat < (N.getD s.toNat []).length := by omega
    left
    have e : (N.getD s.toNat []).getD c.toNat 0 = (N.getD s.toNat [])[c.toNat] := by
      generalize N.getD s.toNat [] = r at hc ⊢
      simp [List.getD, List.getElem?_eq_getElem hc]
    rw [e]; exact g2 _ (List.getElem_mem _)

/-- All words of so many interactions, of a length. -/
def wordsL (L : Nat) : Nat → List (List Int)
  | 0 => [[]]
  | n + 1 => (wordsL L n).flatMap fun w => (List.range L).map fun (a : Nat) => w ++ [(a : Int)]
def uptoL (L : Nat) : Nat → List (List Int)
  | 0 => wordsL L 0
  | n + 1 => uptoL L n ++ wordsL L (n + 1)
theorem wordsL_len (L : Nat) : ∀ n, (wordsL L n).length = L ^ n
  | 0 => rfl
  | n + 1 => by
    have key : ∀ l : List (List Int), (l.flatMap fun w => (List.range L).map fun (a : Nat) => w ++ [(a : Int)]).length = l.length * L := fun l => by
      induction l with
      | nil => simp
      | cons x l ih => simp [ih, Nat.add_mul, Nat.add_comm]
    rw [wordsL, key, wordsL_len L n, Nat.pow_succ]
theorem wordsL_mem {L : Nat} : ∀ {n : Nat} {w : List Int}, w ∈ wordsL L n ↔ w.length = n ∧ ∀ x ∈ w, 0 ≤ x ∧ x < (L : Int)
  | 0, w => by
    simp only [wordsL, List.mem_singleton]
    constructor
    · rintro rfl; simp
    · rintro ⟨h, _⟩; exact List.length_eq_zero_iff.1 h
  | n + 1, w => by
    simp only [wordsL, List.mem_flatMap, List.mem_map, List.mem_range]
    constructor
    · rintro ⟨v, hv, a, ha, rfl⟩
      obtain ⟨h1, h2⟩ := wordsL_mem.1 hv
      refine ⟨by simp [h1], fun x hx => ?_⟩
      rcases List.mem_append.1 hx with q | q
      · exact h2 x q
      · rw [List.mem_singleton.1 q]; omega
    · rintro ⟨h1, h2⟩
      have hne : w ≠ [] := by rintro rfl; simp at h1
      have e := List.dropLast_concat_getLast hne
      have hx := h2 _ (List.getLast_mem hne)
      refine ⟨w.dropLast, wordsL_mem.2 ⟨by simp [h1], fun x hx => h2 x (List.dropLast_subset _ hx)⟩, (w.getLast hne).toNat, by omega, ?_⟩
      rw [show (((w.getLast hne).toNat : Nat) : Int) = w.getLast hne by omega]; exact e
theorem uptoL_mem {L : Nat} : ∀ {n : Nat} {w : List Int}, w ∈ uptoL L n ↔ w.length ≤ n ∧ ∀ x ∈ w, 0 ≤ x ∧ x < (L : Int)
  | 0, w => by rw [uptoL, wordsL_mem]; simp
  | n + 1, w => by
    rw [uptoL, List.mem_append, wordsL_mem, uptoL_mem]
    constructor
    · rintro (⟨h1, h2⟩ | ⟨h1, h2⟩)
      · exact ⟨by omega, h2⟩
      · exact ⟨by omega, h2⟩
    · rintro ⟨h1, h2⟩
      rcases Nat.lt_or_ge n w.length with q | q
      · exact .inr ⟨by omega, h2⟩
      · exact .inl ⟨q, h2⟩

theorem runD_neg {N : List (List Int)} : ∀ {w : List Int} {s : Int}, s < 0 → runD N s w = s
  | [], s, _ => rfl
  | k :: w, s, h => by rw [runD, if_pos h]
theorem runD_app {N : List (List Int)} : ∀ {w : List Int} {s : Int} {k : Int}, runD N s (w ++ [k]) = if runD N s w < 0 then runD N s w else toD N (runD N s w) k
  | [], s, k => by by_cases h : s < 0 <;> simp [runD, h]
  | x :: w, s, k => by
    rw [List.cons_append, runD, runD]
    by_cases h : s < 0
    · rw [if_pos h, if_pos h, if_pos h]
    · rw [if_neg h, if_neg h, runD_app]
end Go.Proofs.Ytbhjmioegdgpnaa
