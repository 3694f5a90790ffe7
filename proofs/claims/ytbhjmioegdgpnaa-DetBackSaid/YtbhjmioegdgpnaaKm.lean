/-
  Classes by rounds: plain functions and facts.
-/
import Derived.Test.YtbhjmioegdgpnaaKy
namespace Go.Proofs.Ytbhjmioegdgpnaa
open Go.Ab
set_option linter.unusedSimpArgs false
set_option linter.unusedVariables false

/-- Keys by number. -/
def ixM {α : Type} (kf : α → Value) (ks : List α) (n : Nat) : List (Value × Value) := (ks.zipIdx n).map fun p => (kf p.1, .int .i64 (p.2 : Int))
theorem ixM_cons {α : Type} (kf : α → Value) (y : α) (ks : List α) (n : Nat) : ixM kf (y :: ks) n = (kf y, .int .i64 (n : Int)) :: ixM kf ks (n + 1) := by simp [ixM]
theorem mget_ix {α : Type} [BEq α] [LawfulBEq α] (kf : α → Value) (x : α) : ∀ (ks : List α) (n : Nat), (∀ y ∈ ks, keyEq (kf x) (kf y) = (y == x)) → mget (kf x) (ixM kf ks n) = if ks.contains x = true then some (.int .i64 ((n + ks.idxOf x : Nat) : Int)) else none
  | [], _, _ => rfl
  | y :: ks, n, h => by
    rw [ixM_cons, mget, h y (by simp), mget_ix kf x ks (n + 1) fun z hz => h z (by simp [hz]), List.contains_cons, List.idxOf_cons]
    have e : (x == y) = (y == x) := by rw [Bool.eq_iff_iff, beq_iff_eq, beq_iff_eq]; exact eq_comm
    rw [e]
    cases hq : (y == x)
    · simp only [Bool.false_eq_true, if_false, Bool.false_or, cond_false]
      rw [show n + 1 + ks.idxOf x = n + (ks.idxOf x + 1) by omega]
    · simp
theorem mset_ix {α : Type} [BEq α] [LawfulBEq α] (kf : α → Value) (x : α) : ∀ (ks : List α) (n : Nat), (∀ y ∈ ks, keyEq (kf x) (kf y) = (y == x)) → ks.contains x = false → mset (kf x) (.int .i64 ((n + ks.length : Nat) : Int)) (ixM kf ks n) = ixM kf (ks ++ [x]) n
  | [], n, _, _ => by simp [ixM, mset]
  | y :: ks, n, h, hc => by
    rw [List.contains_cons, Bool.or_eq_false_iff] at hc
    have e : (y == x) = false := by rw [← hc.1, Bool.eq_iff_iff, beq_iff_eq, beq_iff_eq]; exact eq_comm
    rw [ixM_cons, mset, h y (by simp), e, List.cons_append, ixM_cons]
    simp only [Bool.false_eq_true, if_false]
    rw [← mset_ix kf x ks (n + 1) (fun z hz => h z (by simp [hz])) hc.2, List.length_cons, show n + 1 + ks.length = n + (ks.length + 1) by omega]

section
variable {N : List (List Int)} {lv : List Bool} {c : List Int}
end

section
variable {F : List Bool} {N : List (List Int)}
end

end Go.Proofs.Ytbhjmioegdgpnaa
