/-
  No cell of these rows narrows 'for every input' (looked for: loops, veiled, ifaces, maps, wideKeys, modest, calm, conditions, laid).
  DERIVED. THE GIVEN ROWS OF THIS SEAT. 4 by the template 'for every input the law returns true; each argument reads behind the call as it read before'; 0 by the template 'total and deterministic' (their statements: YtcfnbofapjgepaaTotals.lean).
  GIVEN WITH THE SEED: the statements are not yours to turn. If you find one false, say at which input.
  Laid BY PROGRAM, IN A SANDBOX (cutbox-rows.mjs): the forced cells as the released guide's own fill.sh prints them over the translation 1b4f2397b656c70a… (all of the seat's roots in one cut). By AI agents, Wed Nov 11 2026. No macro, syntax, notation, axiom, sorry.
-/
import Derived.Test.YtcfnbofapjgepaaChecked
import GoSem.Claim
import GoSem.ClaimJoined
import GoSem.ClaimMapViews
import Derived.JoinedTies
import Derived.KernelRfl
namespace Go.Proofs.Ytcfnbofapjgepaa
/- THE CELL 'sum', in the pinned program and in every row, IS THE sha256 OF THE DUMP (.gsa) THAT YtcfnbofapjgepaaProg.lean LOADS. Nothing in Lean hashes anything: it is a label: what it is worth is what the hold of that sum in a sandbox is worth. -/
noncomputable def Try.pinned : Pinned := { name := "ytcfnbofapjgepaa", sum := "1b4f2397b656c70a2bdf8ea0969283877376601ddacabf5a29f269e095698978", checked := Try.checked }
namespace Rows
def none {H : Type} : Left H := { results := [], args := [] }

/-- 'galliardlaw21.LangDiffer': WHATEVER THE INPUT: true; the input reads as it did. -/
def langDifferSpec : ChangeSpec := { name := "langDiffer", fn := fun _ => fun
  | [d1, d2, d3] => { results := [.lit (.bool true)], args := [d1, d2, d3] }
  | _ => none }
def langDifferRow : OpenClaim := { program := "ytcfnbofapjgepaa", sum := "1b4f2397b656c70a2bdf8ea0969283877376601ddacabf5a29f269e095698978", func := "galliard/galliardlaw21.LangDiffer", spec := "langDiffer", unfollowed := true, recurses := true, plainKeys := false, apart := false }
def LangDifferSaid : Prop := langDifferRow.holds Try.pinned (OpenSpec.ofChange langDifferSpec)

/-- ITS FALSE NEIGHBOUR: 'it returns false'. Refute it at one input. -/
def langDifferWrong : ChangeSpec := { name := "langDiffer", fn := fun _ => fun
  | [d1, d2, d3] => { results := [.lit (.bool false)], args := [d1, d2, d3] }
  | _ => none }
def LangDifferWrongFalsely : Prop := langDifferRow.holds Try.pinned (OpenSpec.ofChange langDifferWrong)

/-- 'galliardlaw20.MiniSame': WHATEVER THE INPUT: true; the input reads as it did. -/
def miniSameSpec : ChangeSpec := { name := "miniSame", fn := fun _ => fun
  | [d1, d2, d3] => { results := [.lit (.bool true)], args := [d1, d2, d3] }
  | _ => none }
def miniSameRow : OpenClaim := { program := "ytcfnbofapjgepaa", sum := "1b4f2397b656c70a2bdf8ea0969283877376601ddacabf5a29f269e095698978", func := "galliard/galliardlaw20.MiniSame", spec := "miniSame", unfollowed := true, recurses := true, plainKeys := false, apart := false }
def MiniSameSaid : Prop := miniSameRow.holds Try.pinned (OpenSpec.ofChange miniSameSpec)

/-- ITS FALSE NEIGHBOUR: 'it returns false'. Refute it at one input. -/
def miniSameWrong : ChangeSpec := { name := "miniSame", fn := fun _ => fun
  | [d1, d2, d3] => { results := [.lit (.bool false)], args := [d1, d2, d3] }
  | _ => none }
def MiniSameWrongFalsely : Prop := miniSameRow.holds Try.pinned (OpenSpec.ofChange miniSameWrong)

/-- 'galliardlaw51.AlgebraWords': WHATEVER THE INPUT: true; the input reads as it did. -/
def algebraWordsSpec : ChangeSpec := { name := "algebraWords", fn := fun _ => fun
  | [d1, d2, d3] => { results := [.lit (.bool true)], args := [d1, d2, d3] }
  | _ => none }
def algebraWordsRow : OpenClaim := { program := "ytcfnbofapjgepaa", sum := "1b4f2397b656c70a2bdf8ea0969283877376601ddacabf5a29f269e095698978", func := "galliard/galliardlaw51.AlgebraWords", spec := "algebraWords", unfollowed := true, recurses := true, plainKeys := false, apart := false }
def AlgebraWordsSaid : Prop := algebraWordsRow.holds Try.pinned (OpenSpec.ofChange algebraWordsSpec)

/-- ITS FALSE NEIGHBOUR: 'it returns false'. Refute it at one input. -/
def algebraWordsWrong : ChangeSpec := { name := "algebraWords", fn := fun _ => fun
  | [d1, d2, d3] => { results := [.lit (.bool false)], args := [d1, d2, d3] }
  | _ => none }
def AlgebraWordsWrongFalsely : Prop := algebraWordsRow.holds Try.pinned (OpenSpec.ofChange algebraWordsWrong)

/-- 'galliardlaw51.AlgebraBehind': WHATEVER THE INPUT: true; the input reads as it did. -/
def algebraBehindSpec : ChangeSpec := { name := "algebraBehind", fn := fun _ => fun
  | [d1, d2, d3] => { results := [.lit (.bool true)], args := [d1, d2, d3] }
  | _ => none }
def algebraBehindRow : OpenClaim := { program := "ytcfnbofapjgepaa", sum := "1b4f2397b656c70a2bdf8ea0969283877376601ddacabf5a29f269e095698978", func := "galliard/galliardlaw51.AlgebraBehind", spec := "algebraBehind", unfollowed := true, recurses := true, plainKeys := false, apart := false }
def AlgebraBehindSaid : Prop := algebraBehindRow.holds Try.pinned (OpenSpec.ofChange algebraBehindSpec)

/-- ITS FALSE NEIGHBOUR: 'it returns false'. Refute it at one input. -/
def algebraBehindWrong : ChangeSpec := { name := "algebraBehind", fn := fun _ => fun
  | [d1, d2, d3] => { results := [.lit (.bool false)], args := [d1, d2, d3] }
  | _ => none }
def AlgebraBehindWrongFalsely : Prop := algebraBehindRow.holds Try.pinned (OpenSpec.ofChange algebraBehindWrong)

/- THE SECOND FORM. 'bulk': how many values and letters a reading holds, each counted each time it is reached (what is shared counts as often as it is met; a slice's spare places count too). A statement '..UptoSaid' is the law's where the arguments, and the package variables that the reading takes, are together of bulk at most 1048576: NARROWER than '..Said'. Prove '..Said' where nothing that the law and all that it calls make is longer than what came in: it says more and counts as full. Else prove '..UptoSaid'. A law counts once. -/
mutual
def uptoBulk {H : Type} : DataW H → Nat
  | .lit (.string bytes) => bytes.length + 1
  | .lit _ => 1
  | .nil => 1
  | .ptr d => uptoBulk d + 1
  | .slice elems spare => uptoBulkAll elems + uptoBulkAll spare + 1
  | .agg parts => uptoBulkAll parts + 1
  | .iface _ d => uptoBulk d + 1
  | .map entries => uptoBulkEntries entries + 1
  | .held _ => 1
def uptoBulkAll {H : Type} : List (DataW H) → Nat
  | [] => 0
  | d :: r => uptoBulk d + uptoBulkAll r
def uptoBulkEntries {H : Type} : List (Lit × DataW H) → Nat
  | [] => 0
  | x :: r => uptoBulkEntry x + uptoBulkEntries r
def uptoBulkEntry {H : Type} : Lit × DataW H → Nat
  | (.string bytes, d) => bytes.length + uptoBulk d + 1
  | (_, d) => uptoBulk d + 1
 end
def uptoSmall : (H : Type) → List (DataW H) → Bool := fun _ ds => decide (uptoBulkAll ds ≤ 1048576)
def OpenSpec.upto (s : _root_.Go.ChangeSpec) : _root_.Go.OpenSpec := { _root_.Go.OpenSpec.ofChange s with cond := some uptoSmall }

/-- 'galliardlaw21.LangDiffer', WHERE WHAT IT READS IS OF BULK AT MOST 1048576: true; the input reads as it did. -/
def langDifferUptoRow : OpenClaim := { program := "ytcfnbofapjgepaa", sum := "1b4f2397b656c70a2bdf8ea0969283877376601ddacabf5a29f269e095698978", func := "galliard/galliardlaw21.LangDiffer", spec := "langDiffer", unfollowed := true, recurses := true, plainKeys := false, apart := false, narrowed := true }
def LangDifferUptoSaid : Prop := langDifferUptoRow.holds Try.pinned (OpenSpec.upto langDifferSpec)

/-- 'galliardlaw20.MiniSame', WHERE WHAT IT READS IS OF BULK AT MOST 1048576: true; the input reads as it did. -/
def miniSameUptoRow : OpenClaim := { program := "ytcfnbofapjgepaa", sum := "1b4f2397b656c70a2bdf8ea0969283877376601ddacabf5a29f269e095698978", func := "galliard/galliardlaw20.MiniSame", spec := "miniSame", unfollowed := true, recurses := true, plainKeys := false, apart := false, narrowed := true }
def MiniSameUptoSaid : Prop := miniSameUptoRow.holds Try.pinned (OpenSpec.upto miniSameSpec)

/-- 'galliardlaw51.AlgebraWords', WHERE WHAT IT READS IS OF BULK AT MOST 1048576: true; the input reads as it did. -/
def algebraWordsUptoRow : OpenClaim := { program := "ytcfnbofapjgepaa", sum := "1b4f2397b656c70a2bdf8ea0969283877376601ddacabf5a29f269e095698978", func := "galliard/galliardlaw51.AlgebraWords", spec := "algebraWords", unfollowed := true, recurses := true, plainKeys := false, apart := false, narrowed := true }
def AlgebraWordsUptoSaid : Prop := algebraWordsUptoRow.holds Try.pinned (OpenSpec.upto algebraWordsSpec)

/-- 'galliardlaw51.AlgebraBehind', WHERE WHAT IT READS IS OF BULK AT MOST 1048576: true; the input reads as it did. -/
def algebraBehindUptoRow : OpenClaim := { program := "ytcfnbofapjgepaa", sum := "1b4f2397b656c70a2bdf8ea0969283877376601ddacabf5a29f269e095698978", func := "galliard/galliardlaw51.AlgebraBehind", spec := "algebraBehind", unfollowed := true, recurses := true, plainKeys := false, apart := false, narrowed := true }
def AlgebraBehindUptoSaid : Prop := algebraBehindUptoRow.holds Try.pinned (OpenSpec.upto algebraBehindSpec)

end Rows
end Go.Proofs.Ytcfnbofapjgepaa
