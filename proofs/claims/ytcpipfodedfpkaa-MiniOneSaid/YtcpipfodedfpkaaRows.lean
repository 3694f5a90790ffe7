/-
  No cell of these rows narrows 'for every input' (looked for: loops, veiled, ifaces, maps, wideKeys, modest, calm, conditions, laid).
  DERIVED. THE GIVEN ROWS OF THIS SEAT. 7 by the template 'for every input the law returns true; each argument reads behind the call as it read before'; 0 by the template 'total and deterministic' (their statements: YtcpipfodedfpkaaTotals.lean).
  GIVEN WITH THE SEED: the statements are not yours to turn. If you find one false, say at which input.
  Laid BY PROGRAM, IN A SANDBOX (cutbox-rows.mjs): the forced cells as the released guide's own fill.sh prints them over the translation 21eda956715a8d87… (all of the seat's roots in one cut). By AI agents, Wed Nov 11 2026. No macro, syntax, notation, axiom, sorry.
-/
import Derived.Test.YtcpipfodedfpkaaChecked
import GoSem.Claim
import GoSem.ClaimJoined
import GoSem.ClaimMapViews
import Derived.JoinedTies
import Derived.KernelRfl
namespace Go.Proofs.Ytcpipfodedfpkaa
/- THE CELL 'sum', in the pinned program and in every row, IS THE sha256 OF THE DUMP (.gsa) THAT YtcpipfodedfpkaaProg.lean LOADS. Nothing in Lean hashes anything: it is a label: what it is worth is what the hold of that sum in a sandbox is worth. -/
noncomputable def Try.pinned : Pinned := { name := "ytcpipfodedfpkaa", sum := "21eda956715a8d87ad2050855e7bf2b7c9976dda1bdd89d1acfb63225f8540fb", checked := Try.checked }
namespace Rows
def none {H : Type} : Left H := { results := [], args := [] }

/-- 'galliardlaw20.MiniOne': WHATEVER THE INPUT: true; the input reads as it did. -/
def miniOneSpec : ChangeSpec := { name := "miniOne", fn := fun _ => fun
  | [d1, d2, d3] => { results := [.lit (.bool true)], args := [d1, d2, d3] }
  | _ => none }
def miniOneRow : OpenClaim := { program := "ytcpipfodedfpkaa", sum := "21eda956715a8d87ad2050855e7bf2b7c9976dda1bdd89d1acfb63225f8540fb", func := "galliard/galliardlaw20.MiniOne", spec := "miniOne", unfollowed := true, recurses := true, apart := false }
def MiniOneSaid : Prop := miniOneRow.holds Try.pinned (OpenSpec.ofChange miniOneSpec)

/-- ITS FALSE NEIGHBOUR: 'it returns false'. Refute it at one input. -/
def miniOneWrong : ChangeSpec := { name := "miniOne", fn := fun _ => fun
  | [d1, d2, d3] => { results := [.lit (.bool false)], args := [d1, d2, d3] }
  | _ => none }
def MiniOneWrongFalsely : Prop := miniOneRow.holds Try.pinned (OpenSpec.ofChange miniOneWrong)

/-- 'galliardlaw23.HideOf': WHATEVER THE INPUT: true; the input reads as it did. -/
def hideOfSpec : ChangeSpec := { name := "hideOf", fn := fun _ => fun
  | [d1, d2, d3] => { results := [.lit (.bool true)], args := [d1, d2, d3] }
  | _ => none }
def hideOfRow : OpenClaim := { program := "ytcpipfodedfpkaa", sum := "21eda956715a8d87ad2050855e7bf2b7c9976dda1bdd89d1acfb63225f8540fb", func := "galliard/galliardlaw23.HideOf", spec := "hideOf", unfollowed := true, recurses := true, apart := false }
def HideOfSaid : Prop := hideOfRow.holds Try.pinned (OpenSpec.ofChange hideOfSpec)

/-- ITS FALSE NEIGHBOUR: 'it returns false'. Refute it at one input. -/
def hideOfWrong : ChangeSpec := { name := "hideOf", fn := fun _ => fun
  | [d1, d2, d3] => { results := [.lit (.bool false)], args := [d1, d2, d3] }
  | _ => none }
def HideOfWrongFalsely : Prop := hideOfRow.holds Try.pinned (OpenSpec.ofChange hideOfWrong)

/-- 'galliardlaw24.PeerCan': WHATEVER THE INPUT: true; the input reads as it did. -/
def peerCanSpec : ChangeSpec := { name := "peerCan", fn := fun _ => fun
  | [d1, d2, d3] => { results := [.lit (.bool true)], args := [d1, d2, d3] }
  | _ => none }
def peerCanRow : OpenClaim := { program := "ytcpipfodedfpkaa", sum := "21eda956715a8d87ad2050855e7bf2b7c9976dda1bdd89d1acfb63225f8540fb", func := "galliard/galliardlaw24.PeerCan", spec := "peerCan", unfollowed := true, recurses := true, apart := false }
def PeerCanSaid : Prop := peerCanRow.holds Try.pinned (OpenSpec.ofChange peerCanSpec)

/-- ITS FALSE NEIGHBOUR: 'it returns false'. Refute it at one input. -/
def peerCanWrong : ChangeSpec := { name := "peerCan", fn := fun _ => fun
  | [d1, d2, d3] => { results := [.lit (.bool false)], args := [d1, d2, d3] }
  | _ => none }
def PeerCanWrongFalsely : Prop := peerCanRow.holds Try.pinned (OpenSpec.ofChange peerCanWrong)

/-- 'galliardlaw24.PeerAll': WHATEVER THE INPUT: true; the input reads as it did. -/
def peerAllSpec : ChangeSpec := { name := "peerAll", fn := fun _ => fun
  | [d1, d2, d3] => { results := [.lit (.bool true)], args := [d1, d2, d3] }
  | _ => none }
def peerAllRow : OpenClaim := { program := "ytcpipfodedfpkaa", sum := "21eda956715a8d87ad2050855e7bf2b7c9976dda1bdd89d1acfb63225f8540fb", func := "galliard/galliardlaw24.PeerAll", spec := "peerAll", unfollowed := true, recurses := true, apart := false }
def PeerAllSaid : Prop := peerAllRow.holds Try.pinned (OpenSpec.ofChange peerAllSpec)

/-- ITS FALSE NEIGHBOUR: 'it returns false'. Refute it at one input. -/
def peerAllWrong : ChangeSpec := { name := "peerAll", fn := fun _ => fun
  | [d1, d2, d3] => { results := [.lit (.bool false)], args := [d1, d2, d3] }
  | _ => none }
def PeerAllWrongFalsely : Prop := peerAllRow.holds Try.pinned (OpenSpec.ofChange peerAllWrong)

/-- 'galliardlaw27.JointOf': WHATEVER THE INPUT: true; the input reads as it did. -/
def jointOfSpec : ChangeSpec := { name := "jointOf", fn := fun _ => fun
  | [d1, d2, d3] => { results := [.lit (.bool true)], args := [d1, d2, d3] }
  | _ => none }
def jointOfRow : OpenClaim := { program := "ytcpipfodedfpkaa", sum := "21eda956715a8d87ad2050855e7bf2b7c9976dda1bdd89d1acfb63225f8540fb", func := "galliard/galliardlaw27.JointOf", spec := "jointOf", unfollowed := true, recurses := true, apart := false }
def JointOfSaid : Prop := jointOfRow.holds Try.pinned (OpenSpec.ofChange jointOfSpec)

/-- ITS FALSE NEIGHBOUR: 'it returns false'. Refute it at one input. -/
def jointOfWrong : ChangeSpec := { name := "jointOf", fn := fun _ => fun
  | [d1, d2, d3] => { results := [.lit (.bool false)], args := [d1, d2, d3] }
  | _ => none }
def JointOfWrongFalsely : Prop := jointOfRow.holds Try.pinned (OpenSpec.ofChange jointOfWrong)

/-- 'galliardlaw27.JointInput': WHATEVER THE INPUT: true; the input reads as it did. -/
def jointInputSpec : ChangeSpec := { name := "jointInput", fn := fun _ => fun
  | [d1, d2, d3] => { results := [.lit (.bool true)], args := [d1, d2, d3] }
  | _ => none }
def jointInputRow : OpenClaim := { program := "ytcpipfodedfpkaa", sum := "21eda956715a8d87ad2050855e7bf2b7c9976dda1bdd89d1acfb63225f8540fb", func := "galliard/galliardlaw27.JointInput", spec := "jointInput", unfollowed := true, recurses := true, apart := false }
def JointInputSaid : Prop := jointInputRow.holds Try.pinned (OpenSpec.ofChange jointInputSpec)

/-- ITS FALSE NEIGHBOUR: 'it returns false'. Refute it at one input. -/
def jointInputWrong : ChangeSpec := { name := "jointInput", fn := fun _ => fun
  | [d1, d2, d3] => { results := [.lit (.bool false)], args := [d1, d2, d3] }
  | _ => none }
def JointInputWrongFalsely : Prop := jointInputRow.holds Try.pinned (OpenSpec.ofChange jointInputWrong)

/-- 'galliardlaw27.JointFollows': WHATEVER THE INPUT: true; the input reads as it did. -/
def jointFollowsSpec : ChangeSpec := { name := "jointFollows", fn := fun _ => fun
  | [d1, d2, d3] => { results := [.lit (.bool true)], args := [d1, d2, d3] }
  | _ => none }
def jointFollowsRow : OpenClaim := { program := "ytcpipfodedfpkaa", sum := "21eda956715a8d87ad2050855e7bf2b7c9976dda1bdd89d1acfb63225f8540fb", func := "galliard/galliardlaw27.JointFollows", spec := "jointFollows", unfollowed := true, recurses := true, apart := false }
def JointFollowsSaid : Prop := jointFollowsRow.holds Try.pinned (OpenSpec.ofChange jointFollowsSpec)

/-- ITS FALSE NEIGHBOUR: 'it returns false'. Refute it at one input. -/
def jointFollowsWrong : ChangeSpec := { name := "jointFollows", fn := fun _ => fun
  | [d1, d2, d3] => { results := [.lit (.bool false)], args := [d1, d2, d3] }
  | _ => none }
def JointFollowsWrongFalsely : Prop := jointFollowsRow.holds Try.pinned (OpenSpec.ofChange jointFollowsWrong)

/- THE SECOND FORM. 'bulk': how many values and letters a reading holds, each counted each time it is reached (what is shared counts as often as it is met; a slice's spare places count too). A statement '..UptoSaid' is the law's where the arguments, and the package variables that the reading takes, are together of bulk at most 1048576: NARROWER than '..Said'. Prove '..Said' where nothing that the law and all that it calls make is longer than what came in: it says more and counts as full. Else prove '..UptoSaid'. A law counts once. -/
mutual
def uptoBulk {H : Type} : DataW H → Nat
  | .lit (.string bytes) => bytes.length + 1
  | .lit _ => 1
  | .nil => 1
  | .ptr d => uptoBulk d + 1
  | .slice elems spare => uptoBulkAll elems + uptoBulkAll spare + 1
  | .agg parts => uptoBulkAll parts + 1
  | .iface _ d => uptoBulk d + 1
  | .map entries => uptoBulkEntries entries + 1
  | .held _ => 1
def uptoBulkAll {H : Type} : List (DataW H) → Nat
  | [] => 0
  | d :: r => uptoBulk d + uptoBulkAll r
def uptoBulkEntries {H : Type} : List (Lit × DataW H) → Nat
  | [] => 0
  | x :: r => uptoBulkEntry x + uptoBulkEntries r
def uptoBulkEntry {H : Type} : Lit × DataW H → Nat
  | (.string bytes, d) => bytes.length + uptoBulk d + 1
  | (_, d) => uptoBulk d + 1
 end
def uptoSmall : (H : Type) → List (DataW H) → Bool := fun _ ds => decide (uptoBulkAll ds ≤ 1048576)
def OpenSpec.upto (s : _root_.Go.ChangeSpec) : _root_.Go.OpenSpec := { _root_.Go.OpenSpec.ofChange s with cond := some uptoSmall }

/-- 'galliardlaw20.MiniOne', WHERE WHAT IT READS IS OF BULK AT MOST 1048576: true; the input reads as it did. -/
def miniOneUptoRow : OpenClaim := { program := "ytcpipfodedfpkaa", sum := "21eda956715a8d87ad2050855e7bf2b7c9976dda1bdd89d1acfb63225f8540fb", func := "galliard/galliardlaw20.MiniOne", spec := "miniOne", unfollowed := true, recurses := true, apart := false, narrowed := true }
def MiniOneUptoSaid : Prop := miniOneUptoRow.holds Try.pinned (OpenSpec.upto miniOneSpec)

/-- 'galliardlaw23.HideOf', WHERE WHAT IT READS IS OF BULK AT MOST 1048576: true; the input reads as it did. -/
def hideOfUptoRow : OpenClaim := { program := "ytcpipfodedfpkaa", sum := "21eda956715a8d87ad2050855e7bf2b7c9976dda1bdd89d1acfb63225f8540fb", func := "galliard/galliardlaw23.HideOf", spec := "hideOf", unfollowed := true, recurses := true, apart := false, narrowed := true }
def HideOfUptoSaid : Prop := hideOfUptoRow.holds Try.pinned (OpenSpec.upto hideOfSpec)

/-- 'galliardlaw24.PeerCan', WHERE WHAT IT READS IS OF BULK AT MOST 1048576: true; the input reads as it did. -/
def peerCanUptoRow : OpenClaim := { program := "ytcpipfodedfpkaa", sum := "21eda956715a8d87ad2050855e7bf2b7c9976dda1bdd89d1acfb63225f8540fb", func := "galliard/galliardlaw24.PeerCan", spec := "peerCan", unfollowed := true, recurses := true, apart := false, narrowed := true }
def PeerCanUptoSaid : Prop := peerCanUptoRow.holds Try.pinned (OpenSpec.upto peerCanSpec)

/-- 'galliardlaw24.PeerAll', WHERE WHAT IT READS IS OF BULK AT MOST 1048576: true; the input reads as it did. -/
def peerAllUptoRow : OpenClaim := { program := "ytcpipfodedfpkaa", sum := "21eda956715a8d87ad2050855e7bf2b7c9976dda1bdd89d1acfb63225f8540fb", func := "galliard/galliardlaw24.PeerAll", spec := "peerAll", unfollowed := true, recurses := true, apart := false, narrowed := true }
def PeerAllUptoSaid : Prop := peerAllUptoRow.holds Try.pinned (OpenSpec.upto peerAllSpec)

/-- 'galliardlaw27.JointOf', WHERE WHAT IT READS IS OF BULK AT MOST 1048576: true; the input reads as it did. -/
def jointOfUptoRow : OpenClaim := { program := "ytcpipfodedfpkaa", sum := "21eda956715a8d87ad2050855e7bf2b7c9976dda1bdd89d1acfb63225f8540fb", func := "galliard/galliardlaw27.JointOf", spec := "jointOf", unfollowed := true, recurses := true, apart := false, narrowed := true }
def JointOfUptoSaid : Prop := jointOfUptoRow.holds Try.pinned (OpenSpec.upto jointOfSpec)

/-- 'galliardlaw27.JointInput', WHERE WHAT IT READS IS OF BULK AT MOST 1048576: true; the input reads as it did. -/
def jointInputUptoRow : OpenClaim := { program := "ytcpipfodedfpkaa", sum := "21eda956715a8d87ad2050855e7bf2b7c9976dda1bdd89d1acfb63225f8540fb", func := "galliard/galliardlaw27.JointInput", spec := "jointInput", unfollowed := true, recurses := true, apart := false, narrowed := true }
def JointInputUptoSaid : Prop := jointInputUptoRow.holds Try.pinned (OpenSpec.upto jointInputSpec)

/-- 'galliardlaw27.JointFollows', WHERE WHAT IT READS IS OF BULK AT MOST 1048576: true; the input reads as it did. -/
def jointFollowsUptoRow : OpenClaim := { program := "ytcpipfodedfpkaa", sum := "21eda956715a8d87ad2050855e7bf2b7c9976dda1bdd89d1acfb63225f8540fb", func := "galliard/galliardlaw27.JointFollows", spec := "jointFollows", unfollowed := true, recurses := true, apart := false, narrowed := true }
def JointFollowsUptoSaid : Prop := jointFollowsUptoRow.holds Try.pinned (OpenSpec.upto jointFollowsSpec)

end Rows
end Go.Proofs.Ytcpipfodedfpkaa
