/-
  ABSTRACT DATA FOR WALKS, 25: a value as it is.
-/
import Derived.Test.YtfllndodnhmhkaaAb24
namespace Go.Ab
set_option linter.unusedSimpArgs false
set_option linter.unusedVariables false

section
variable {P : Program} {E : Ent} {st : St}

/-- A region that lays one value. -/
theorem awp_assign_v {rid : Nat} {o : Oper} {v : Value} {Q : Exit → St → Prop} (ho : o.op = .assign (.const v)) (hg : o.guard = none) (hf : st.fits o.dst = true) (h : Q .normal (st.put o.dst (.v v))) : AWP P E (.region rid #[o] false) Q st := by
  intro a w hR
  obtain ⟨ρ, I, hrb⟩ := hR
  refine wp_region ?_
  have hw : st.want #[o] o = some true := by simp [St.want, hg]
  have hop : #[o][0]? = some o := rfl
  show wpOps P #[o] _ [0] a w
  simp only [wpOps, hop]
  rw [hrb.want hw]
  simp only [if_true]
  left
  unfold Oper.wp
  have : (execOp a.eval o).run P w = .ok (.value v) w := by
    unfold execOp
    rw [ho]
    rfl
  rw [this]
  exact ⟨_, h, ρ, I, hrb.put hf (.v _ _)⟩

end
end Go.Ab
