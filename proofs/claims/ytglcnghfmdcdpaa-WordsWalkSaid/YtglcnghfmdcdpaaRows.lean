/-
  No cell of these rows narrows 'for every input' (looked for: loops, veiled, ifaces, maps, wideKeys, modest, calm, conditions, laid).
  DERIVED. THE GIVEN ROWS OF THIS SEAT. 3 by the template 'for every input the law returns true; each argument reads behind the call as it read before'; 0 by the template 'total and deterministic' (their statements: YtglcnghfmdcdpaaTotals.lean).
  GIVEN WITH THE SEED: the statements are not yours to turn. If you find one false, say at which input.
  Laid BY PROGRAM, IN A SANDBOX (cutbox-rows.mjs): the forced cells as the released guide's own fill.sh prints them over the translation 13bd80e91cbe021b… (all of the seat's roots in one cut). By AI agents, Wed Nov 11 2026. No macro, syntax, notation, axiom, sorry.
-/
import Derived.Test.YtglcnghfmdcdpaaChecked
import GoSem.Claim
import GoSem.ClaimJoined
import GoSem.ClaimMapViews
import Derived.JoinedTies
import Derived.KernelRfl
namespace Go.Proofs.Ytglcnghfmdcdpaa
/- THE CELL 'sum', in the pinned program and in every row, IS THE sha256 OF THE DUMP (.gsa) THAT YtglcnghfmdcdpaaProg.lean LOADS. Nothing in Lean hashes anything: it is a label: what it is worth is what the hold of that sum in a sandbox is worth. -/
noncomputable def Try.pinned : Pinned := { name := "ytglcnghfmdcdpaa", sum := "13bd80e91cbe021b612e3b299c4cf0170770b9c5e4f8f5ff3d781fea3622991a", checked := Try.checked }
namespace Rows
def none {H : Type} : Left H := { results := [], args := [] }

/-- 'galliardlaw22.WordsAll': WHATEVER THE INPUT: true; the input reads as it did. -/
def wordsAllSpec : ChangeSpec := { name := "wordsAll", fn := fun _ => fun
  | [d1, d2, d3] => { results := [.lit (.bool true)], args := [d1, d2, d3] }
  | _ => none }
def wordsAllRow : OpenClaim := { program := "ytglcnghfmdcdpaa", sum := "13bd80e91cbe021b612e3b299c4cf0170770b9c5e4f8f5ff3d781fea3622991a", func := "galliard/galliardlaw22.WordsAll", spec := "wordsAll", unfollowed := true, recurses := true, apart := false }
def WordsAllSaid : Prop := wordsAllRow.holds Try.pinned (OpenSpec.ofChange wordsAllSpec)

/-- ITS FALSE NEIGHBOUR: 'it returns false'. Refute it at one input. -/
def wordsAllWrong : ChangeSpec := { name := "wordsAll", fn := fun _ => fun
  | [d1, d2, d3] => { results := [.lit (.bool false)], args := [d1, d2, d3] }
  | _ => none }
def WordsAllWrongFalsely : Prop := wordsAllRow.holds Try.pinned (OpenSpec.ofChange wordsAllWrong)

/-- 'galliardlaw22.WordsEnd': WHATEVER THE INPUT: true; the input reads as it did. -/
def wordsEndSpec : ChangeSpec := { name := "wordsEnd", fn := fun _ => fun
  | [d1, d2, d3] => { results := [.lit (.bool true)], args := [d1, d2, d3] }
  | _ => none }
def wordsEndRow : OpenClaim := { program := "ytglcnghfmdcdpaa", sum := "13bd80e91cbe021b612e3b299c4cf0170770b9c5e4f8f5ff3d781fea3622991a", func := "galliard/galliardlaw22.WordsEnd", spec := "wordsEnd", unfollowed := true, recurses := true, apart := false }
def WordsEndSaid : Prop := wordsEndRow.holds Try.pinned (OpenSpec.ofChange wordsEndSpec)

/-- ITS FALSE NEIGHBOUR: 'it returns false'. Refute it at one input. -/
def wordsEndWrong : ChangeSpec := { name := "wordsEnd", fn := fun _ => fun
  | [d1, d2, d3] => { results := [.lit (.bool false)], args := [d1, d2, d3] }
  | _ => none }
def WordsEndWrongFalsely : Prop := wordsEndRow.holds Try.pinned (OpenSpec.ofChange wordsEndWrong)

/-- 'galliardlaw22.WordsWalk': WHATEVER THE INPUT: true; the input reads as it did. -/
def wordsWalkSpec : ChangeSpec := { name := "wordsWalk", fn := fun _ => fun
  | [d1, d2, d3] => { results := [.lit (.bool true)], args := [d1, d2, d3] }
  | _ => none }
def wordsWalkRow : OpenClaim := { program := "ytglcnghfmdcdpaa", sum := "13bd80e91cbe021b612e3b299c4cf0170770b9c5e4f8f5ff3d781fea3622991a", func := "galliard/galliardlaw22.WordsWalk", spec := "wordsWalk", unfollowed := true, recurses := true, apart := false }
def WordsWalkSaid : Prop := wordsWalkRow.holds Try.pinned (OpenSpec.ofChange wordsWalkSpec)

/-- ITS FALSE NEIGHBOUR: 'it returns false'. Refute it at one input. -/
def wordsWalkWrong : ChangeSpec := { name := "wordsWalk", fn := fun _ => fun
  | [d1, d2, d3] => { results := [.lit (.bool false)], args := [d1, d2, d3] }
  | _ => none }
def WordsWalkWrongFalsely : Prop := wordsWalkRow.holds Try.pinned (OpenSpec.ofChange wordsWalkWrong)

/- THE SECOND FORM. 'bulk': how many values and letters a reading holds, each counted each time it is reached (what is shared counts as often as it is met; a slice's spare places count too). A statement '..UptoSaid' is the law's where the arguments, and the package variables that the reading takes, are together of bulk at most 1048576: NARROWER than '..Said'. Prove '..Said' where nothing that the law and all that it calls make is longer than what came in: it says more and counts as full. Else prove '..UptoSaid'. A law counts once. -/
mutual
def uptoBulk {H : Type} : DataW H → Nat
  | .lit (.string bytes) => bytes.length + 1
  | .lit _ => 1
  | .nil => 1
  | .ptr d => uptoBulk d + 1
  | .slice elems spare => uptoBulkAll elems + uptoBulkAll spare + 1
  | .agg parts => uptoBulkAll parts + 1
  | .iface _ d => uptoBulk d + 1
  | .map entries => uptoBulkEntries entries + 1
  | .held _ => 1
def uptoBulkAll {H : Type} : List (DataW H) → Nat
  | [] => 0
  | d :: r => uptoBulk d + uptoBulkAll r
def uptoBulkEntries {H : Type} : List (Lit × DataW H) → Nat
  | [] => 0
  | x :: r => uptoBulkEntry x + uptoBulkEntries r
def uptoBulkEntry {H : Type} : Lit × DataW H → Nat
  | (.string bytes, d) => bytes.length + uptoBulk d + 1
  | (_, d) => uptoBulk d + 1
 end
def uptoSmall : (H : Type) → List (DataW H) → Bool := fun _ ds => decide (uptoBulkAll ds ≤ 1048576)
def OpenSpec.upto (s : _root_.Go.ChangeSpec) : _root_.Go.OpenSpec := { _root_.Go.OpenSpec.ofChange s with cond := some uptoSmall }

/-- 'galliardlaw22.WordsAll', WHERE WHAT IT READS IS OF BULK AT MOST 1048576: true; the input reads as it did. -/
def wordsAllUptoRow : OpenClaim := { program := "ytglcnghfmdcdpaa", sum := "13bd80e91cbe021b612e3b299c4cf0170770b9c5e4f8f5ff3d781fea3622991a", func := "galliard/galliardlaw22.WordsAll", spec := "wordsAll", unfollowed := true, recurses := true, apart := false, narrowed := true }
def WordsAllUptoSaid : Prop := wordsAllUptoRow.holds Try.pinned (OpenSpec.upto wordsAllSpec)

/-- 'galliardlaw22.WordsEnd', WHERE WHAT IT READS IS OF BULK AT MOST 1048576: true; the input reads as it did. -/
def wordsEndUptoRow : OpenClaim := { program := "ytglcnghfmdcdpaa", sum := "13bd80e91cbe021b612e3b299c4cf0170770b9c5e4f8f5ff3d781fea3622991a", func := "galliard/galliardlaw22.WordsEnd", spec := "wordsEnd", unfollowed := true, recurses := true, apart := false, narrowed := true }
def WordsEndUptoSaid : Prop := wordsEndUptoRow.holds Try.pinned (OpenSpec.upto wordsEndSpec)

/-- 'galliardlaw22.WordsWalk', WHERE WHAT IT READS IS OF BULK AT MOST 1048576: true; the input reads as it did. -/
def wordsWalkUptoRow : OpenClaim := { program := "ytglcnghfmdcdpaa", sum := "13bd80e91cbe021b612e3b299c4cf0170770b9c5e4f8f5ff3d781fea3622991a", func := "galliard/galliardlaw22.WordsWalk", spec := "wordsWalk", unfollowed := true, recurses := true, apart := false, narrowed := true }
def WordsWalkUptoSaid : Prop := wordsWalkUptoRow.holds Try.pinned (OpenSpec.upto wordsWalkSpec)

end Rows
end Go.Proofs.Ytglcnghfmdcdpaa
