/-
  No cell of these rows narrows 'for every input' (looked for: loops, veiled, ifaces, maps, wideKeys, modest, calm, conditions, laid).
  DERIVED. THE GIVEN ROWS OF THIS SEAT. 4 by the template 'for every input the law returns true; each argument reads behind the call as it read before'; 0 by the template 'total and deterministic' (their statements: YtbhjmioegdgpnaaTotals.lean).
  GIVEN WITH THE SEED: the statements are not yours to turn. If you find one false, say at which input.
  Laid BY PROGRAM, IN A SANDBOX (cutbox-rows.mjs): the forced cells as the released guide's own fill.sh prints them over the translation 55e5e76ac3f07eda… (all of the seat's roots in one cut). By AI agents, Wed Nov 11 2026. No macro, syntax, notation, axiom, sorry.
-/
import Derived.Test.YtbhjmioegdgpnaaChecked
import GoSem.Claim
import GoSem.ClaimJoined
import GoSem.ClaimMapViews
import Derived.JoinedTies
import Derived.KernelRfl
namespace Go.Proofs.Ytbhjmioegdgpnaa
/- THE CELL 'sum', in the pinned program and in every row, IS THE sha256 OF THE DUMP (.gsa) THAT YtbhjmioegdgpnaaProg.lean LOADS. Nothing in Lean hashes anything: it is a label: what it is worth is what the hold of that sum in a sandbox is worth. -/
noncomputable def Try.pinned : Pinned := { name := "ytbhjmioegdgpnaa", sum := "55e5e76ac3f07eda2e637cc80a7987f5b736e03e4535150af1f1a9b877a57bcc", checked := Try.checked }
namespace Rows
def none {H : Type} : Left H := { results := [], args := [] }

/-- 'galliardlaw18.EpsTakes': WHATEVER THE INPUT: true; the input reads as it did. -/
def epsTakesSpec : ChangeSpec := { name := "epsTakes", fn := fun _ => fun
  | [d1, d2, d3] => { results := [.lit (.bool true)], args := [d1, d2, d3] }
  | _ => none }
def epsTakesRow : OpenClaim := { program := "ytbhjmioegdgpnaa", sum := "55e5e76ac3f07eda2e637cc80a7987f5b736e03e4535150af1f1a9b877a57bcc", func := "galliard/galliardlaw18.EpsTakes", spec := "epsTakes", unfollowed := true, recurses := true, apart := false }
def EpsTakesSaid : Prop := epsTakesRow.holds Try.pinned (OpenSpec.ofChange epsTakesSpec)

/-- ITS FALSE NEIGHBOUR: 'it returns false'. Refute it at one input. -/
def epsTakesWrong : ChangeSpec := { name := "epsTakes", fn := fun _ => fun
  | [d1, d2, d3] => { results := [.lit (.bool false)], args := [d1, d2, d3] }
  | _ => none }
def EpsTakesWrongFalsely : Prop := epsTakesRow.holds Try.pinned (OpenSpec.ofChange epsTakesWrong)

/-- 'galliardlaw18.EpsSets': WHATEVER THE INPUT: true; the input reads as it did. -/
def epsSetsSpec : ChangeSpec := { name := "epsSets", fn := fun _ => fun
  | [d1, d2, d3] => { results := [.lit (.bool true)], args := [d1, d2, d3] }
  | _ => none }
def epsSetsRow : OpenClaim := { program := "ytbhjmioegdgpnaa", sum := "55e5e76ac3f07eda2e637cc80a7987f5b736e03e4535150af1f1a9b877a57bcc", func := "galliard/galliardlaw18.EpsSets", spec := "epsSets", unfollowed := true, recurses := true, apart := false }
def EpsSetsSaid : Prop := epsSetsRow.holds Try.pinned (OpenSpec.ofChange epsSetsSpec)

/-- ITS FALSE NEIGHBOUR: 'it returns false'. Refute it at one input. -/
def epsSetsWrong : ChangeSpec := { name := "epsSets", fn := fun _ => fun
  | [d1, d2, d3] => { results := [.lit (.bool false)], args := [d1, d2, d3] }
  | _ => none }
def EpsSetsWrongFalsely : Prop := epsSetsRow.holds Try.pinned (OpenSpec.ofChange epsSetsWrong)

/-- 'galliardlaw19.DetSame': WHATEVER THE INPUT: true; the input reads as it did. -/
def detSameSpec : ChangeSpec := { name := "detSame", fn := fun _ => fun
  | [d1, d2, d3] => { results := [.lit (.bool true)], args := [d1, d2, d3] }
  | _ => none }
def detSameRow : OpenClaim := { program := "ytbhjmioegdgpnaa", sum := "55e5e76ac3f07eda2e637cc80a7987f5b736e03e4535150af1f1a9b877a57bcc", func := "galliard/galliardlaw19.DetSame", spec := "detSame", unfollowed := true, recurses := true, apart := false }
def DetSameSaid : Prop := detSameRow.holds Try.pinned (OpenSpec.ofChange detSameSpec)

/-- ITS FALSE NEIGHBOUR: 'it returns false'. Refute it at one input. -/
def detSameWrong : ChangeSpec := { name := "detSame", fn := fun _ => fun
  | [d1, d2, d3] => { results := [.lit (.bool false)], args := [d1, d2, d3] }
  | _ => none }
def DetSameWrongFalsely : Prop := detSameRow.holds Try.pinned (OpenSpec.ofChange detSameWrong)

/-- 'galliardlaw19.DetBack': WHATEVER THE INPUT: true; the input reads as it did. -/
def detBackSpec : ChangeSpec := { name := "detBack", fn := fun _ => fun
  | [d1, d2, d3] => { results := [.lit (.bool true)], args := [d1, d2, d3] }
  | _ => none }
def detBackRow : OpenClaim := { program := "ytbhjmioegdgpnaa", sum := "55e5e76ac3f07eda2e637cc80a7987f5b736e03e4535150af1f1a9b877a57bcc", func := "galliard/galliardlaw19.DetBack", spec := "detBack", unfollowed := true, recurses := true, apart := false }
def DetBackSaid : Prop := detBackRow.holds Try.pinned (OpenSpec.ofChange detBackSpec)

/-- ITS FALSE NEIGHBOUR: 'it returns false'. Refute it at one input. -/
def detBackWrong : ChangeSpec := { name := "detBack", fn := fun _ => fun
  | [d1, d2, d3] => { results := [.lit (.bool false)], args := [d1, d2, d3] }
  | _ => none }
def DetBackWrongFalsely : Prop := detBackRow.holds Try.pinned (OpenSpec.ofChange detBackWrong)

/- THE SECOND FORM. 'bulk': how many values and letters a reading holds, each counted each time it is reached (what is shared counts as often as it is met; a slice's spare places count too). A statement '..UptoSaid' is the law's where the arguments, and the package variables that the reading takes, are together of bulk at most 1048576: NARROWER than '..Said'. Prove '..Said' where nothing that the law and all that it calls make is longer than what came in: it says more and counts as full. Else prove '..UptoSaid'. A law counts once. -/
mutual
def uptoBulk {H : Type} : DataW H → Nat
  | .lit (.string bytes) => bytes.length + 1
  | .lit _ => 1
  | .nil => 1
  | .ptr d => uptoBulk d + 1
  | .slice elems spare => uptoBulkAll elems + uptoBulkAll spare + 1
  | .agg parts => uptoBulkAll parts + 1
  | .iface _ d => uptoBulk d + 1
  | .map entries => uptoBulkEntries entries + 1
  | .held _ => 1
def uptoBulkAll {H : Type} : List (DataW H) → Nat
  | [] => 0
  | d :: r => uptoBulk d + uptoBulkAll r
def uptoBulkEntries {H : Type} : List (Lit × DataW H) → Nat
  | [] => 0
  | x :: r => uptoBulkEntry x + uptoBulkEntries r
def uptoBulkEntry {H : Type} : Lit × DataW H → Nat
  | (.string bytes, d) => bytes.length + uptoBulk d + 1
  | (_, d) => uptoBulk d + 1
 end
def uptoSmall : (H : Type) → List (DataW H) → Bool := fun _ ds => decide (uptoBulkAll ds ≤ 1048576)
def OpenSpec.upto (s : _root_.Go.ChangeSpec) : _root_.Go.OpenSpec := { _root_.Go.OpenSpec.ofChange s with cond := some uptoSmall }

/-- 'galliardlaw18.EpsTakes', WHERE WHAT IT READS IS OF BULK AT MOST 1048576: true; the input reads as it did. -/
def epsTakesUptoRow : OpenClaim := { program := "ytbhjmioegdgpnaa", sum := "55e5e76ac3f07eda2e637cc80a7987f5b736e03e4535150af1f1a9b877a57bcc", func := "galliard/galliardlaw18.EpsTakes", spec := "epsTakes", unfollowed := true, recurses := true, apart := false, narrowed := true }
def EpsTakesUptoSaid : Prop := epsTakesUptoRow.holds Try.pinned (OpenSpec.upto epsTakesSpec)

/-- 'galliardlaw18.EpsSets', WHERE WHAT IT READS IS OF BULK AT MOST 1048576: true; the input reads as it did. -/
def epsSetsUptoRow : OpenClaim := { program := "ytbhjmioegdgpnaa", sum := "55e5e76ac3f07eda2e637cc80a7987f5b736e03e4535150af1f1a9b877a57bcc", func := "galliard/galliardlaw18.EpsSets", spec := "epsSets", unfollowed := true, recurses := true, apart := false, narrowed := true }
def EpsSetsUptoSaid : Prop := epsSetsUptoRow.holds Try.pinned (OpenSpec.upto epsSetsSpec)

/-- 'galliardlaw19.DetSame', WHERE WHAT IT READS IS OF BULK AT MOST 1048576: true; the input reads as it did. -/
def detSameUptoRow : OpenClaim := { program := "ytbhjmioegdgpnaa", sum := "55e5e76ac3f07eda2e637cc80a7987f5b736e03e4535150af1f1a9b877a57bcc", func := "galliard/galliardlaw19.DetSame", spec := "detSame", unfollowed := true, recurses := true, apart := false, narrowed := true }
def DetSameUptoSaid : Prop := detSameUptoRow.holds Try.pinned (OpenSpec.upto detSameSpec)

/-- 'galliardlaw19.DetBack', WHERE WHAT IT READS IS OF BULK AT MOST 1048576: true; the input reads as it did. -/
def detBackUptoRow : OpenClaim := { program := "ytbhjmioegdgpnaa", sum := "55e5e76ac3f07eda2e637cc80a7987f5b736e03e4535150af1f1a9b877a57bcc", func := "galliard/galliardlaw19.DetBack", spec := "detBack", unfollowed := true, recurses := true, apart := false, narrowed := true }
def DetBackUptoSaid : Prop := detBackUptoRow.holds Try.pinned (OpenSpec.upto detBackSpec)

end Rows
end Go.Proofs.Ytbhjmioegdgpnaa
