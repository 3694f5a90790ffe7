/-
  ABSTRACT DATA FOR WALKS, 21: data that are written no more, before a loop.
-/
import Derived.Test.YtfllndodnhmhkaaAb20
namespace Go.Ab
set_option linter.unusedSimpArgs false
set_option linter.unusedVariables false

section
variable {P : Program} {E : Ent} {st : St} {tt : TypeId → Option TI}

theorem awp_freeze {c : Code} {Q : Exit → St → Prop} (ids : List Nat) (h : AWP P E c Q (st.freeze ids)) : AWP P E c Q st := by
  intro a w hR
  obtain ⟨ρ, I, hrb⟩ := hR
  obtain ⟨J, _, h'⟩ := hrb.freeze ids
  exact h a w ⟨ρ, J, h'⟩

/-- What stands in a slot, as data that nobody writes any more. -/
def St.pureSlot (st : St) (t : Nat) (ids : List Nat) (d : D) : St := { st.freeze ids with slots := upd (st.freeze ids).slots t d }

theorem awp_pure {c : Code} {Q : Exit → St → Prop} (t : Nat) {d d' : D} {ids : List Nat} {p : Prop} (hs : st.slots t = some d) (he : pur st.heap 4 d = some (ids, p, d')) (hp : p) (h : AWP P E c Q (st.pureSlot t ids d')) : AWP P E c Q st := by
  intro a w hR
  obtain ⟨ρ, I, hrb⟩ := hR
  obtain ⟨ht, hx⟩ := hrb.slots t d hs
  obtain ⟨J, _, h', hd'⟩ := hrb.pur he hp hx
  refine h a w ⟨ρ, J, ⟨h'.size, h'.defers, fun u e hu => ?_, h'.mem, h'.i0, h'.i1, h'.ext, h'.fresh, h'.pins⟩⟩
  simp only [St.pureSlot, upd] at hu
  split at hu
  · rename_i q
    cases hu
    subst q
    exact ⟨ht, hd'.mono (fun id l hl => by cases hl)⟩
  · exact h'.slots u e hu

end
end Go.Ab
