/-
  No cell of these rows narrows 'for every input' (looked for: loops, veiled, ifaces, maps, wideKeys, modest, calm, conditions, laid).
  DERIVED. THE GIVEN ROWS OF THIS SEAT. 7 by the template 'for every input the law returns true; each argument reads behind the call as it read before'; 0 by the template 'total and deterministic' (their statements: YtfllndodnhmhkaaTotals.lean).
  GIVEN WITH THE SEED: the statements are not yours to turn. If you find one false, say at which input.
  Laid BY PROGRAM, IN A SANDBOX (cutbox-rows.mjs): the forced cells as the released guide's own fill.sh prints them over the translation 015aa4bab0272484… (all of the seat's roots in one cut). By AI agents, Wed Nov 11 2026. No macro, syntax, notation, axiom, sorry.
-/
import Derived.Test.YtfllndodnhmhkaaChecked
import GoSem.Claim
import GoSem.ClaimJoined
import GoSem.ClaimMapViews
import Derived.JoinedTies
import Derived.KernelRfl
namespace Go.Proofs.Ytfllndodnhmhkaa
/- THE CELL 'sum', in the pinned program and in every row, IS THE sha256 OF THE DUMP (.gsa) THAT YtfllndodnhmhkaaProg.lean LOADS. Nothing in Lean hashes anything: it is a label: what it is worth is what the hold of that sum in a sandbox is worth. -/
noncomputable def Try.pinned : Pinned := { name := "ytfllndodnhmhkaa", sum := "015aa4bab0272484cb3e23048b98a0b570c5a39c12ac33c51b1cc53b63fd7e3a", checked := Try.checked }
namespace Rows
def none {H : Type} : Left H := { results := [], args := [] }

/-- 'galliardlaw36.JournalAdds': WHATEVER THE INPUT: true; the input reads as it did. -/
def journalAddsSpec : ChangeSpec := { name := "journalAdds", fn := fun _ => fun
  | [d1, d2] => { results := [.lit (.bool true)], args := [d1, d2] }
  | _ => none }
def journalAddsRow : OpenClaim := { program := "ytfllndodnhmhkaa", sum := "015aa4bab0272484cb3e23048b98a0b570c5a39c12ac33c51b1cc53b63fd7e3a", func := "galliard/galliardlaw36.JournalAdds", spec := "journalAdds", apart := false }
def JournalAddsSaid : Prop := journalAddsRow.holds Try.pinned (OpenSpec.ofChange journalAddsSpec)

/-- ITS FALSE NEIGHBOUR: 'it returns false'. Refute it at one input. -/
def journalAddsWrong : ChangeSpec := { name := "journalAdds", fn := fun _ => fun
  | [d1, d2] => { results := [.lit (.bool false)], args := [d1, d2] }
  | _ => none }
def JournalAddsWrongFalsely : Prop := journalAddsRow.holds Try.pinned (OpenSpec.ofChange journalAddsWrong)

/-- 'galliardlaw36.JournalFrom': WHATEVER THE INPUT: true; the input reads as it did. -/
def journalFromSpec : ChangeSpec := { name := "journalFrom", fn := fun _ => fun
  | [d1, d2, d3] => { results := [.lit (.bool true)], args := [d1, d2, d3] }
  | _ => none }
def journalFromRow : OpenClaim := { program := "ytfllndodnhmhkaa", sum := "015aa4bab0272484cb3e23048b98a0b570c5a39c12ac33c51b1cc53b63fd7e3a", func := "galliard/galliardlaw36.JournalFrom", spec := "journalFrom", apart := false }
def JournalFromSaid : Prop := journalFromRow.holds Try.pinned (OpenSpec.ofChange journalFromSpec)

/-- ITS FALSE NEIGHBOUR: 'it returns false'. Refute it at one input. -/
def journalFromWrong : ChangeSpec := { name := "journalFrom", fn := fun _ => fun
  | [d1, d2, d3] => { results := [.lit (.bool false)], args := [d1, d2, d3] }
  | _ => none }
def JournalFromWrongFalsely : Prop := journalFromRow.holds Try.pinned (OpenSpec.ofChange journalFromWrong)

/-- 'galliardlaw37.SnapAny': WHATEVER THE INPUT: true; the input reads as it did. -/
def snapAnySpec : ChangeSpec := { name := "snapAny", fn := fun _ => fun
  | [d1, d2, d3] => { results := [.lit (.bool true)], args := [d1, d2, d3] }
  | _ => none }
def snapAnyRow : OpenClaim := { program := "ytfllndodnhmhkaa", sum := "015aa4bab0272484cb3e23048b98a0b570c5a39c12ac33c51b1cc53b63fd7e3a", func := "galliard/galliardlaw37.SnapAny", spec := "snapAny", unfollowed := true, recurses := true, apart := false }
def SnapAnySaid : Prop := snapAnyRow.holds Try.pinned (OpenSpec.ofChange snapAnySpec)

/-- ITS FALSE NEIGHBOUR: 'it returns false'. Refute it at one input. -/
def snapAnyWrong : ChangeSpec := { name := "snapAny", fn := fun _ => fun
  | [d1, d2, d3] => { results := [.lit (.bool false)], args := [d1, d2, d3] }
  | _ => none }
def SnapAnyWrongFalsely : Prop := snapAnyRow.holds Try.pinned (OpenSpec.ofChange snapAnyWrong)

/-- 'galliardlaw37.SnapMay': WHATEVER THE INPUT: true; the input reads as it did. -/
def snapMaySpec : ChangeSpec := { name := "snapMay", fn := fun _ => fun
  | [d1, d2] => { results := [.lit (.bool true)], args := [d1, d2] }
  | _ => none }
def snapMayRow : OpenClaim := { program := "ytfllndodnhmhkaa", sum := "015aa4bab0272484cb3e23048b98a0b570c5a39c12ac33c51b1cc53b63fd7e3a", func := "galliard/galliardlaw37.SnapMay", spec := "snapMay", unfollowed := true, recurses := true, apart := false }
def SnapMaySaid : Prop := snapMayRow.holds Try.pinned (OpenSpec.ofChange snapMaySpec)

/-- ITS FALSE NEIGHBOUR: 'it returns false'. Refute it at one input. -/
def snapMayWrong : ChangeSpec := { name := "snapMay", fn := fun _ => fun
  | [d1, d2] => { results := [.lit (.bool false)], args := [d1, d2] }
  | _ => none }
def SnapMayWrongFalsely : Prop := snapMayRow.holds Try.pinned (OpenSpec.ofChange snapMayWrong)

/-- 'galliardlaw37.SnapHead': WHATEVER THE INPUT: true; the input reads as it did. -/
def snapHeadSpec : ChangeSpec := { name := "snapHead", fn := fun _ => fun
  | [d1, d2, d3] => { results := [.lit (.bool true)], args := [d1, d2, d3] }
  | _ => none }
def snapHeadRow : OpenClaim := { program := "ytfllndodnhmhkaa", sum := "015aa4bab0272484cb3e23048b98a0b570c5a39c12ac33c51b1cc53b63fd7e3a", func := "galliard/galliardlaw37.SnapHead", spec := "snapHead", unfollowed := true, recurses := true, apart := false }
def SnapHeadSaid : Prop := snapHeadRow.holds Try.pinned (OpenSpec.ofChange snapHeadSpec)

/-- ITS FALSE NEIGHBOUR: 'it returns false'. Refute it at one input. -/
def snapHeadWrong : ChangeSpec := { name := "snapHead", fn := fun _ => fun
  | [d1, d2, d3] => { results := [.lit (.bool false)], args := [d1, d2, d3] }
  | _ => none }
def SnapHeadWrongFalsely : Prop := snapHeadRow.holds Try.pinned (OpenSpec.ofChange snapHeadWrong)

/-- 'galliardlaw37.SnapBack': WHATEVER THE INPUT: true; the input reads as it did. -/
def snapBackSpec : ChangeSpec := { name := "snapBack", fn := fun _ => fun
  | [d1, d2] => { results := [.lit (.bool true)], args := [d1, d2] }
  | _ => none }
def snapBackRow : OpenClaim := { program := "ytfllndodnhmhkaa", sum := "015aa4bab0272484cb3e23048b98a0b570c5a39c12ac33c51b1cc53b63fd7e3a", func := "galliard/galliardlaw37.SnapBack", spec := "snapBack", unfollowed := true, recurses := true, apart := false }
def SnapBackSaid : Prop := snapBackRow.holds Try.pinned (OpenSpec.ofChange snapBackSpec)

/-- ITS FALSE NEIGHBOUR: 'it returns false'. Refute it at one input. -/
def snapBackWrong : ChangeSpec := { name := "snapBack", fn := fun _ => fun
  | [d1, d2] => { results := [.lit (.bool false)], args := [d1, d2] }
  | _ => none }
def SnapBackWrongFalsely : Prop := snapBackRow.holds Try.pinned (OpenSpec.ofChange snapBackWrong)

/-- 'galliardlaw37.SnapPlan': WHATEVER THE INPUT: true; the input reads as it did. -/
def snapPlanSpec : ChangeSpec := { name := "snapPlan", fn := fun _ => fun
  | [d1, d2, d3] => { results := [.lit (.bool true)], args := [d1, d2, d3] }
  | _ => none }
def snapPlanRow : OpenClaim := { program := "ytfllndodnhmhkaa", sum := "015aa4bab0272484cb3e23048b98a0b570c5a39c12ac33c51b1cc53b63fd7e3a", func := "galliard/galliardlaw37.SnapPlan", spec := "snapPlan", unfollowed := true, recurses := true, apart := false }
def SnapPlanSaid : Prop := snapPlanRow.holds Try.pinned (OpenSpec.ofChange snapPlanSpec)

/-- ITS FALSE NEIGHBOUR: 'it returns false'. Refute it at one input. -/
def snapPlanWrong : ChangeSpec := { name := "snapPlan", fn := fun _ => fun
  | [d1, d2, d3] => { results := [.lit (.bool false)], args := [d1, d2, d3] }
  | _ => none }
def SnapPlanWrongFalsely : Prop := snapPlanRow.holds Try.pinned (OpenSpec.ofChange snapPlanWrong)

/- THE SECOND FORM. 'bulk': how many values and letters a reading holds, each counted each time it is reached (what is shared counts as often as it is met; a slice's spare places count too). A statement '..UptoSaid' is the law's where the arguments, and the package variables that the reading takes, are together of bulk at most 1048576: NARROWER than '..Said'. Prove '..Said' where nothing that the law and all that it calls make is longer than what came in: it says more and counts as full. Else prove '..UptoSaid'. A law counts once. -/
mutual
def uptoBulk {H : Type} : DataW H → Nat
  | .lit (.string bytes) => bytes.length + 1
  | .lit _ => 1
  | .nil => 1
  | .ptr d => uptoBulk d + 1
  | .slice elems spare => uptoBulkAll elems + uptoBulkAll spare + 1
  | .agg parts => uptoBulkAll parts + 1
  | .iface _ d => uptoBulk d + 1
  | .map entries => uptoBulkEntries entries + 1
  | .held _ => 1
def uptoBulkAll {H : Type} : List (DataW H) → Nat
  | [] => 0
  | d :: r => uptoBulk d + uptoBulkAll r
def uptoBulkEntries {H : Type} : List (Lit × DataW H) → Nat
  | [] => 0
  | x :: r => uptoBulkEntry x + uptoBulkEntries r
def uptoBulkEntry {H : Type} : Lit × DataW H → Nat
  | (.string bytes, d) => bytes.length + uptoBulk d + 1
  | (_, d) => uptoBulk d + 1
 end
def uptoSmall : (H : Type) → List (DataW H) → Bool := fun _ ds => decide (uptoBulkAll ds ≤ 1048576)
def OpenSpec.upto (s : _root_.Go.ChangeSpec) : _root_.Go.OpenSpec := { _root_.Go.OpenSpec.ofChange s with cond := some uptoSmall }

/-- 'galliardlaw36.JournalAdds', WHERE WHAT IT READS IS OF BULK AT MOST 1048576: true; the input reads as it did. -/
def journalAddsUptoRow : OpenClaim := { program := "ytfllndodnhmhkaa", sum := "015aa4bab0272484cb3e23048b98a0b570c5a39c12ac33c51b1cc53b63fd7e3a", func := "galliard/galliardlaw36.JournalAdds", spec := "journalAdds", apart := false, narrowed := true }
def JournalAddsUptoSaid : Prop := journalAddsUptoRow.holds Try.pinned (OpenSpec.upto journalAddsSpec)

/-- 'galliardlaw36.JournalFrom', WHERE WHAT IT READS IS OF BULK AT MOST 1048576: true; the input reads as it did. -/
def journalFromUptoRow : OpenClaim := { program := "ytfllndodnhmhkaa", sum := "015aa4bab0272484cb3e23048b98a0b570c5a39c12ac33c51b1cc53b63fd7e3a", func := "galliard/galliardlaw36.JournalFrom", spec := "journalFrom", apart := false, narrowed := true }
def JournalFromUptoSaid : Prop := journalFromUptoRow.holds Try.pinned (OpenSpec.upto journalFromSpec)

/-- 'galliardlaw37.SnapAny', WHERE WHAT IT READS IS OF BULK AT MOST 1048576: true; the input reads as it did. -/
def snapAnyUptoRow : OpenClaim := { program := "ytfllndodnhmhkaa", sum := "015aa4bab0272484cb3e23048b98a0b570c5a39c12ac33c51b1cc53b63fd7e3a", func := "galliard/galliardlaw37.SnapAny", spec := "snapAny", unfollowed := true, recurses := true, apart := false, narrowed := true }
def SnapAnyUptoSaid : Prop := snapAnyUptoRow.holds Try.pinned (OpenSpec.upto snapAnySpec)

/-- 'galliardlaw37.SnapMay', WHERE WHAT IT READS IS OF BULK AT MOST 1048576: true; the input reads as it did. -/
def snapMayUptoRow : OpenClaim := { program := "ytfllndodnhmhkaa", sum := "015aa4bab0272484cb3e23048b98a0b570c5a39c12ac33c51b1cc53b63fd7e3a", func := "galliard/galliardlaw37.SnapMay", spec := "snapMay", unfollowed := true, recurses := true, apart := false, narrowed := true }
def SnapMayUptoSaid : Prop := snapMayUptoRow.holds Try.pinned (OpenSpec.upto snapMaySpec)

/-- 'galliardlaw37.SnapHead', WHERE WHAT IT READS IS OF BULK AT MOST 1048576: true; the input reads as it did. -/
def snapHeadUptoRow : OpenClaim := { program := "ytfllndodnhmhkaa", sum := "015aa4bab0272484cb3e23048b98a0b570c5a39c12ac33c51b1cc53b63fd7e3a", func := "galliard/galliardlaw37.SnapHead", spec := "snapHead", unfollowed := true, recurses := true, apart := false, narrowed := true }
def SnapHeadUptoSaid : Prop := snapHeadUptoRow.holds Try.pinned (OpenSpec.upto snapHeadSpec)

/-- 'galliardlaw37.SnapBack', WHERE WHAT IT READS IS OF BULK AT MOST 1048576: true; the input reads as it did. -/
def snapBackUptoRow : OpenClaim := { program := "ytfllndodnhmhkaa", sum := "015aa4bab0272484cb3e23048b98a0b570c5a39c12ac33c51b1cc53b63fd7e3a", func := "galliard/galliardlaw37.SnapBack", spec := "snapBack", unfollowed := true, recurses := true, apart := false, narrowed := true }
def SnapBackUptoSaid : Prop := snapBackUptoRow.holds Try.pinned (OpenSpec.upto snapBackSpec)

/-- 'galliardlaw37.SnapPlan', WHERE WHAT IT READS IS OF BULK AT MOST 1048576: true; the input reads as it did. -/
def snapPlanUptoRow : OpenClaim := { program := "ytfllndodnhmhkaa", sum := "015aa4bab0272484cb3e23048b98a0b570c5a39c12ac33c51b1cc53b63fd7e3a", func := "galliard/galliardlaw37.SnapPlan", spec := "snapPlan", unfollowed := true, recurses := true, apart := false, narrowed := true }
def SnapPlanUptoSaid : Prop := snapPlanUptoRow.holds Try.pinned (OpenSpec.upto snapPlanSpec)

end Rows
end Go.Proofs.Ytfllndodnhmhkaa
