/-
  No cell of these rows narrows 'for every input' (looked for: loops, veiled, ifaces, maps, wideKeys, modest, calm, conditions, laid).
  DERIVED. THE GIVEN ROWS OF THIS SEAT. 3 by the template 'for every input the law returns true; each argument reads behind the call as it read before'; 0 by the template 'total and deterministic' (their statements: YtmfonlkigjpjcaaTotals.lean).
  GIVEN WITH THE SEED: the statements are not yours to turn. If you find one false, say at which input.
  Laid BY PROGRAM, IN A SANDBOX (cutbox-rows.mjs): the forced cells as the released guide's own fill.sh prints them over the translation 166bb788ba4e6691… (all of the seat's roots in one cut). By AI agents, Wed Nov 11 2026. No macro, syntax, notation, axiom, sorry.
-/
import Derived.Test.YtmfonlkigjpjcaaChecked
import GoSem.Claim
import GoSem.ClaimJoined
import GoSem.ClaimMapViews
import Derived.JoinedTies
import Derived.KernelRfl
namespace Go.Proofs.Ytmfonlkigjpjcaa
/- THE CELL 'sum', in the pinned program and in every row, IS THE sha256 OF THE DUMP (.gsa) THAT YtmfonlkigjpjcaaProg.lean LOADS. Nothing in Lean hashes anything: it is a label: what it is worth is what the hold of that sum in a sandbox is worth. -/
noncomputable def Try.pinned : Pinned := { name := "ytmfonlkigjpjcaa", sum := "166bb788ba4e669130eaa313063c7fd1079fbdc9639bb8118aa6a882870dbe94", checked := Try.checked }
namespace Rows
def none {H : Type} : Left H := { results := [], args := [] }

/-- 'galliardlaw38.MendAreas': WHATEVER THE INPUT: true; the input reads as it did. -/
def mendAreasSpec : ChangeSpec := { name := "mendAreas", fn := fun _ => fun
  | [d1, d2, d3] => { results := [.lit (.bool true)], args := [d1, d2, d3] }
  | _ => none }
def mendAreasRow : OpenClaim := { program := "ytmfonlkigjpjcaa", sum := "166bb788ba4e669130eaa313063c7fd1079fbdc9639bb8118aa6a882870dbe94", func := "galliard/galliardlaw38.MendAreas", spec := "mendAreas", unfollowed := true, recurses := true, apart := false }
def MendAreasSaid : Prop := mendAreasRow.holds Try.pinned (OpenSpec.ofChange mendAreasSpec)

/-- ITS FALSE NEIGHBOUR: 'it returns false'. Refute it at one input. -/
def mendAreasWrong : ChangeSpec := { name := "mendAreas", fn := fun _ => fun
  | [d1, d2, d3] => { results := [.lit (.bool false)], args := [d1, d2, d3] }
  | _ => none }
def MendAreasWrongFalsely : Prop := mendAreasRow.holds Try.pinned (OpenSpec.ofChange mendAreasWrong)

/-- 'galliardlaw38.MendFinds': WHATEVER THE INPUT: true; the input reads as it did. -/
def mendFindsSpec : ChangeSpec := { name := "mendFinds", fn := fun _ => fun
  | [d1, d2, d3] => { results := [.lit (.bool true)], args := [d1, d2, d3] }
  | _ => none }
def mendFindsRow : OpenClaim := { program := "ytmfonlkigjpjcaa", sum := "166bb788ba4e669130eaa313063c7fd1079fbdc9639bb8118aa6a882870dbe94", func := "galliard/galliardlaw38.MendFinds", spec := "mendFinds", unfollowed := true, recurses := true, apart := false }
def MendFindsSaid : Prop := mendFindsRow.holds Try.pinned (OpenSpec.ofChange mendFindsSpec)

/-- ITS FALSE NEIGHBOUR: 'it returns false'. Refute it at one input. -/
def mendFindsWrong : ChangeSpec := { name := "mendFinds", fn := fun _ => fun
  | [d1, d2, d3] => { results := [.lit (.bool false)], args := [d1, d2, d3] }
  | _ => none }
def MendFindsWrongFalsely : Prop := mendFindsRow.holds Try.pinned (OpenSpec.ofChange mendFindsWrong)

/-- 'galliardlaw38.MendTorn': WHATEVER THE INPUT: true; the input reads as it did. -/
def mendTornSpec : ChangeSpec := { name := "mendTorn", fn := fun _ => fun
  | [d1, d2, d3] => { results := [.lit (.bool true)], args := [d1, d2, d3] }
  | _ => none }
def mendTornRow : OpenClaim := { program := "ytmfonlkigjpjcaa", sum := "166bb788ba4e669130eaa313063c7fd1079fbdc9639bb8118aa6a882870dbe94", func := "galliard/galliardlaw38.MendTorn", spec := "mendTorn", unfollowed := true, recurses := true, apart := false }
def MendTornSaid : Prop := mendTornRow.holds Try.pinned (OpenSpec.ofChange mendTornSpec)

/-- ITS FALSE NEIGHBOUR: 'it returns false'. Refute it at one input. -/
def mendTornWrong : ChangeSpec := { name := "mendTorn", fn := fun _ => fun
  | [d1, d2, d3] => { results := [.lit (.bool false)], args := [d1, d2, d3] }
  | _ => none }
def MendTornWrongFalsely : Prop := mendTornRow.holds Try.pinned (OpenSpec.ofChange mendTornWrong)

/- THE SECOND FORM. 'bulk': how many values and letters a reading holds, each counted each time it is reached (what is shared counts as often as it is met; a slice's spare places count too). A statement '..UptoSaid' is the law's where the arguments, and the package variables that the reading takes, are together of bulk at most 1048576: NARROWER than '..Said'. Prove '..Said' where nothing that the law and all that it calls make is longer than what came in: it says more and counts as full. Else prove '..UptoSaid'. A law counts once. -/
mutual
def uptoBulk {H : Type} : DataW H → Nat
  | .lit (.string bytes) => bytes.length + 1
  | .lit _ => 1
  | .nil => 1
  | .ptr d => uptoBulk d + 1
  | .slice elems spare => uptoBulkAll elems + uptoBulkAll spare + 1
  | .agg parts => uptoBulkAll parts + 1
  | .iface _ d => uptoBulk d + 1
  | .map entries => uptoBulkEntries entries + 1
  | .held _ => 1
def uptoBulkAll {H : Type} : List (DataW H) → Nat
  | [] => 0
  | d :: r => uptoBulk d + uptoBulkAll r
def uptoBulkEntries {H : Type} : List (Lit × DataW H) → Nat
  | [] => 0
  | x :: r => uptoBulkEntry x + uptoBulkEntries r
def uptoBulkEntry {H : Type} : Lit × DataW H → Nat
  | (.string bytes, d) => bytes.length + uptoBulk d + 1
  | (_, d) => uptoBulk d + 1
 end
def uptoSmall : (H : Type) → List (DataW H) → Bool := fun _ ds => decide (uptoBulkAll ds ≤ 1048576)
def OpenSpec.upto (s : _root_.Go.ChangeSpec) : _root_.Go.OpenSpec := { _root_.Go.OpenSpec.ofChange s with cond := some uptoSmall }

/-- 'galliardlaw38.MendAreas', WHERE WHAT IT READS IS OF BULK AT MOST 1048576: true; the input reads as it did. -/
def mendAreasUptoRow : OpenClaim := { program := "ytmfonlkigjpjcaa", sum := "166bb788ba4e669130eaa313063c7fd1079fbdc9639bb8118aa6a882870dbe94", func := "galliard/galliardlaw38.MendAreas", spec := "mendAreas", unfollowed := true, recurses := true, apart := false, narrowed := true }
def MendAreasUptoSaid : Prop := mendAreasUptoRow.holds Try.pinned (OpenSpec.upto mendAreasSpec)

/-- 'galliardlaw38.MendFinds', WHERE WHAT IT READS IS OF BULK AT MOST 1048576: true; the input reads as it did. -/
def mendFindsUptoRow : OpenClaim := { program := "ytmfonlkigjpjcaa", sum := "166bb788ba4e669130eaa313063c7fd1079fbdc9639bb8118aa6a882870dbe94", func := "galliard/galliardlaw38.MendFinds", spec := "mendFinds", unfollowed := true, recurses := true, apart := false, narrowed := true }
def MendFindsUptoSaid : Prop := mendFindsUptoRow.holds Try.pinned (OpenSpec.upto mendFindsSpec)

/-- 'galliardlaw38.MendTorn', WHERE WHAT IT READS IS OF BULK AT MOST 1048576: true; the input reads as it did. -/
def mendTornUptoRow : OpenClaim := { program := "ytmfonlkigjpjcaa", sum := "166bb788ba4e669130eaa313063c7fd1079fbdc9639bb8118aa6a882870dbe94", func := "galliard/galliardlaw38.MendTorn", spec := "mendTorn", unfollowed := true, recurses := true, apart := false, narrowed := true }
def MendTornUptoSaid : Prop := mendTornUptoRow.holds Try.pinned (OpenSpec.upto mendTornSpec)

end Rows
end Go.Proofs.Ytmfonlkigjpjcaa
