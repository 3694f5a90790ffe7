/-
  The contract of lang.Shortest.
-/
import Derived.Test.YtcfnbofapjgepaaLg
import Derived.Test.YtcfnbofapjgepaaMay
namespace Go.Proofs.Ytcfnbofapjgepaa
open Go.Ab
set_option linter.unusedSimpArgs false
set_option linter.unusedVariables false

def ch1 (N : List (List Int)) (s : S2) (c : Nat) : Option S2 := if 0 ≤ toD N s.1 c then some (toD N s.1 c, 0) else none
def fin1 (F : List Bool) (s : S2) : Bool := decide (0 ≤ s.1) && F.getD s.1.toNat false
/-- The word of the first state that is such. -/
def srch (ch : S2 → Nat → Option S2) (z : S2) (L : Nat) (fin : S2 → Bool) : Nat → Nat → Option (List Nat)
  | 0, _ => none
  | n + 1, i => if i < (bQ ch z L i).length then (if fin ((bQ ch z L i).getD i (z, -1, -1)).1 = true then some (wordQ z (bQ ch z L i) (bQ ch z L i).length i) else srch ch z L fin n (i + 1)) else none
/-- The word found, if any. -/
def shW (R : Option (List Nat)) : List Int := match R with | some w => nInts w | none => []
theorem nInts_len (l : List Nat) : (nInts l).length = l.length := by simp [nInts]
theorem nInts_take (l : List Nat) (n : Nat) : (nInts l).take n = nInts (l.take n) := by simp [nInts]
def seenB (q : List (QE S2)) (k : Nat) : List Bool := (List.range k).map fun (t : Nat) => q.any fun e => e.1 == ((t : Int), (0 : Int))
theorem seenB_len (q : List (QE S2)) (k : Nat) : (seenB q k).length = k := by simp [seenB]
theorem seenB_get {q : List (QE S2)} {k t : Nat} (h : t < k) : (seenB q k).getD t false = q.any fun e => e.1 == ((t : Int), (0 : Int)) := by
  simp [seenB, List.getD, h]
theorem seenB_snoc (q : List (QE S2)) (k t : Nat) (u x : Int) : seenB (q ++ [(((t : Int), (0 : Int)), u, x)]) k = (seenB q k).set t true := by
  apply List.ext_getElem (by simp [seenB])
  intro j h1 h2
  rw [List.getElem_set]
  simp only [seenB, List.getElem_map, List.getElem_range, List.any_append, List.any_cons, List.any_nil, Bool.or_false]
  by_cases e : t = j
  · subst e
    rw [if_pos rfl]
    simp
  · rw [if_neg e]
    have : ((((t : Int), (0 : Int)) : S2) == ((j : Int), (0 : Int))) = false := by
      rw [beq_eq_false_iff_ne]
      intro q1
      have := congrArg Prod.fst q1
      simp only at this
      omega
    rw [this, Bool.or_false]
theorem seenB_one (k t : Nat) (u x : Int) : seenB [(((t : Int), (0 : Int)), u, x)] k = (List.replicate k false).set t true := by
  have h := seenB_snoc [] k t u x
  rw [List.nil_append] at h
  rw [h]
  congr 1
  apply List.ext_getElem (by simp [seenB])
  intro j h1 h2
  simp [seenB]

theorem ch1_len {L k : Nat} {N : List (List Int)} (h : NOk L k N) {st : Nat} (hst : st < k) {q : List (QE S2)} {i c : Nat} (hb : BInv (ch1 N) ((st : Int), 0) L q i c) : q.length ≤ k := by
  refine hb.len (fun s => s.1.toNat) k (by simpa using hst) (fun s x t ht => ?_) (fun s t hs ht e => ?_)
  · unfold ch1 at ht
    split at ht
    · cases ht
      have := toD_ok h s.1 x
      simp only; omega
    · cases ht
  · have key : ∀ s : S2, (s = ((st : Int), 0) ∨ ∃ r x, ch1 N r x = some s) → 0 ≤ s.1 ∧ s.2 = 0 := fun s hs => by
      rcases hs with rfl | ⟨r, x, hr⟩
      · exact ⟨by simp, rfl⟩
      · unfold ch1 at hr
        split at hr
        · rename_i h0; cases hr; exact ⟨h0, rfl⟩
        · cases hr
    obtain ⟨s1, s2⟩ := s
    obtain ⟨t1, t2⟩ := t
    obtain ⟨a1, a2⟩ := key _ hs
    obtain ⟨b1, b2⟩ := key _ ht
    simp only at a1 a2 b1 b2 e
    have : s1 = t1 := by omega
    rw [this, a2, b2]

end Go.Proofs.Ytcfnbofapjgepaa
