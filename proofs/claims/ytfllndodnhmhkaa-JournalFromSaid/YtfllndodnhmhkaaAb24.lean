/-
  ABSTRACT DATA FOR WALKS, 24: a loop left at more places than one.
-/
import Derived.Test.YtfllndodnhmhkaaAb23
namespace Go.Ab
set_option linter.unusedSimpArgs false
set_option linter.unusedVariables false

section
variable {P : Program} {E : Ent} {st : St}

def joinX {X : Type} (id : Nat) (T : X → St) (Inv : X → Prop) (Q : Exit → St → Prop) : Exit → St → Prop
  | .exit i, st => if i = id then ∃ x, Inv x ∧ (T x).le st else Q (.exit i) st
  | e, st => Q e st

theorem awp_joinX {X : Type} {c : Code} {Q : Exit → St → Prop} (id : Nat) (T : X → St) (Inv : X → Prop) (hQ : ∀ x, Inv x → Q (.exit id) (T x)) (h : AWP P E c (joinX id T Inv Q) st) : AWP P E c Q st := by
  intro a w hR
  refine wp_mono (h a w hR) fun e a' w' ⟨s, h1, h2⟩ => ?_
  cases e with
  | exit i =>
    simp only [joinX] at h1
    split at h1
    · rename_i hi
      subst hi
      obtain ⟨x, q1, q2⟩ := h1
      exact ⟨T x, hQ x q1, h2.le q2⟩
    · exact ⟨s, h1, h2⟩
  | _ => exact ⟨s, h1, h2⟩

/-- The same, where code ends as usual, or in any of some states. -/
def joinN {X : Type} (T : X → St) (Inv : X → Prop) (Q : Exit → St → Prop) : Exit → St → Prop
  | .normal, st => ∃ x, Inv x ∧ (T x).le st
  | e, st => Q e st

theorem awp_joinN {X : Type} {c : Code} {Q : Exit → St → Prop} (T : X → St) (Inv : X → Prop) (hQ : ∀ x, Inv x → Q .normal (T x)) (h : AWP P E c (joinN T Inv Q) st) : AWP P E c Q st := by
  intro a w hR
  refine wp_mono (h a w hR) fun e a' w' ⟨s, h1, h2⟩ => ?_
  cases e with
  | normal =>
    obtain ⟨x, q1, q2⟩ := h1
    exact ⟨T x, hQ x q1, h2.le q2⟩
  | _ => exact ⟨s, h1, h2⟩

end
end Go.Ab
