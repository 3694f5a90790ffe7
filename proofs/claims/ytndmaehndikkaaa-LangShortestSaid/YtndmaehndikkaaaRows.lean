/-
  No cell of these rows narrows 'for every input' (looked for: loops, veiled, ifaces, maps, wideKeys, modest, calm, conditions, laid).
  DERIVED. THE GIVEN ROWS OF THIS SEAT. 5 by the template 'for every input the law returns true; each argument reads behind the call as it read before'; 0 by the template 'total and deterministic' (their statements: YtndmaehndikkaaaTotals.lean).
  GIVEN WITH THE SEED: the statements are not yours to turn. If you find one false, say at which input.
  Laid BY PROGRAM, IN A SANDBOX (cutbox-rows.mjs): the forced cells as the released guide's own fill.sh prints them over the translation 0623a314d42b6337… (all of the seat's roots in one cut). By AI agents, Wed Nov 11 2026. No macro, syntax, notation, axiom, sorry.
-/
import Derived.Test.YtndmaehndikkaaaChecked
import GoSem.Claim
import GoSem.ClaimJoined
import GoSem.ClaimMapViews
import Derived.JoinedTies
import Derived.KernelRfl
namespace Go.Proofs.Ytndmaehndikkaaa
/- THE CELL 'sum', in the pinned program and in every row, IS THE sha256 OF THE DUMP (.gsa) THAT YtndmaehndikkaaaProg.lean LOADS. Nothing in Lean hashes anything: it is a label: what it is worth is what the hold of that sum in a sandbox is worth. -/
noncomputable def Try.pinned : Pinned := { name := "ytndmaehndikkaaa", sum := "0623a314d42b6337de4677a5fb68c3fd1b1b1b28a4c9db33a500c67472eb584d", checked := Try.checked }
namespace Rows
def none {H : Type} : Left H := { results := [], args := [] }

/-- 'galliardlaw43.WatchWords': WHATEVER THE INPUT: true; the input reads as it did. -/
def watchWordsSpec : ChangeSpec := { name := "watchWords", fn := fun _ => fun
  | [d1, d2, d3] => { results := [.lit (.bool true)], args := [d1, d2, d3] }
  | _ => none }
def watchWordsRow : OpenClaim := { program := "ytndmaehndikkaaa", sum := "0623a314d42b6337de4677a5fb68c3fd1b1b1b28a4c9db33a500c67472eb584d", func := "galliard/galliardlaw43.WatchWords", spec := "watchWords", unfollowed := true, recurses := true, plainKeys := false, apart := false }
def WatchWordsSaid : Prop := watchWordsRow.holds Try.pinned (OpenSpec.ofChange watchWordsSpec)

/-- ITS FALSE NEIGHBOUR: 'it returns false'. Refute it at one input. -/
def watchWordsWrong : ChangeSpec := { name := "watchWords", fn := fun _ => fun
  | [d1, d2, d3] => { results := [.lit (.bool false)], args := [d1, d2, d3] }
  | _ => none }
def WatchWordsWrongFalsely : Prop := watchWordsRow.holds Try.pinned (OpenSpec.ofChange watchWordsWrong)

/-- 'galliardlaw43.WatchSees': WHATEVER THE INPUT: true; the input reads as it did. -/
def watchSeesSpec : ChangeSpec := { name := "watchSees", fn := fun _ => fun
  | [d1, d2, d3] => { results := [.lit (.bool true)], args := [d1, d2, d3] }
  | _ => none }
def watchSeesRow : OpenClaim := { program := "ytndmaehndikkaaa", sum := "0623a314d42b6337de4677a5fb68c3fd1b1b1b28a4c9db33a500c67472eb584d", func := "galliard/galliardlaw43.WatchSees", spec := "watchSees", unfollowed := true, recurses := true, plainKeys := false, apart := false }
def WatchSeesSaid : Prop := watchSeesRow.holds Try.pinned (OpenSpec.ofChange watchSeesSpec)

/-- ITS FALSE NEIGHBOUR: 'it returns false'. Refute it at one input. -/
def watchSeesWrong : ChangeSpec := { name := "watchSees", fn := fun _ => fun
  | [d1, d2, d3] => { results := [.lit (.bool false)], args := [d1, d2, d3] }
  | _ => none }
def WatchSeesWrongFalsely : Prop := watchSeesRow.holds Try.pinned (OpenSpec.ofChange watchSeesWrong)

/-- 'galliardlaw22.WordsEnd': WHATEVER THE INPUT: true; the input reads as it did. -/
def wordsEndSpec : ChangeSpec := { name := "wordsEnd", fn := fun _ => fun
  | [d1, d2, d3] => { results := [.lit (.bool true)], args := [d1, d2, d3] }
  | _ => none }
def wordsEndRow : OpenClaim := { program := "ytndmaehndikkaaa", sum := "0623a314d42b6337de4677a5fb68c3fd1b1b1b28a4c9db33a500c67472eb584d", func := "galliard/galliardlaw22.WordsEnd", spec := "wordsEnd", unfollowed := true, recurses := true, plainKeys := false, apart := false }
def WordsEndSaid : Prop := wordsEndRow.holds Try.pinned (OpenSpec.ofChange wordsEndSpec)

/-- ITS FALSE NEIGHBOUR: 'it returns false'. Refute it at one input. -/
def wordsEndWrong : ChangeSpec := { name := "wordsEnd", fn := fun _ => fun
  | [d1, d2, d3] => { results := [.lit (.bool false)], args := [d1, d2, d3] }
  | _ => none }
def WordsEndWrongFalsely : Prop := wordsEndRow.holds Try.pinned (OpenSpec.ofChange wordsEndWrong)

/-- 'galliardlaw21.LangShortest': WHATEVER THE INPUT: true; the input reads as it did. -/
def langShortestSpec : ChangeSpec := { name := "langShortest", fn := fun _ => fun
  | [d1, d2, d3] => { results := [.lit (.bool true)], args := [d1, d2, d3] }
  | _ => none }
def langShortestRow : OpenClaim := { program := "ytndmaehndikkaaa", sum := "0623a314d42b6337de4677a5fb68c3fd1b1b1b28a4c9db33a500c67472eb584d", func := "galliard/galliardlaw21.LangShortest", spec := "langShortest", unfollowed := true, recurses := true, plainKeys := false, apart := false }
def LangShortestSaid : Prop := langShortestRow.holds Try.pinned (OpenSpec.ofChange langShortestSpec)

/-- ITS FALSE NEIGHBOUR: 'it returns false'. Refute it at one input. -/
def langShortestWrong : ChangeSpec := { name := "langShortest", fn := fun _ => fun
  | [d1, d2, d3] => { results := [.lit (.bool false)], args := [d1, d2, d3] }
  | _ => none }
def LangShortestWrongFalsely : Prop := langShortestRow.holds Try.pinned (OpenSpec.ofChange langShortestWrong)

/-- 'galliardlaw22.WordsWalk': WHATEVER THE INPUT: true; the input reads as it did. -/
def wordsWalkSpec : ChangeSpec := { name := "wordsWalk", fn := fun _ => fun
  | [d1, d2, d3] => { results := [.lit (.bool true)], args := [d1, d2, d3] }
  | _ => none }
def wordsWalkRow : OpenClaim := { program := "ytndmaehndikkaaa", sum := "0623a314d42b6337de4677a5fb68c3fd1b1b1b28a4c9db33a500c67472eb584d", func := "galliard/galliardlaw22.WordsWalk", spec := "wordsWalk", unfollowed := true, recurses := true, plainKeys := false, apart := false }
def WordsWalkSaid : Prop := wordsWalkRow.holds Try.pinned (OpenSpec.ofChange wordsWalkSpec)

/-- ITS FALSE NEIGHBOUR: 'it returns false'. Refute it at one input. -/
def wordsWalkWrong : ChangeSpec := { name := "wordsWalk", fn := fun _ => fun
  | [d1, d2, d3] => { results := [.lit (.bool false)], args := [d1, d2, d3] }
  | _ => none }
def WordsWalkWrongFalsely : Prop := wordsWalkRow.holds Try.pinned (OpenSpec.ofChange wordsWalkWrong)

/- THE SECOND FORM. 'bulk': how many values and letters a reading holds, each counted each time it is reached (what is shared counts as often as it is met; a slice's spare places count too). A statement '..UptoSaid' is the law's where the arguments, and the package variables that the reading takes, are together of bulk at most 1048576: NARROWER than '..Said'. Prove '..Said' where nothing that the law and all that it calls make is longer than what came in: it says more and counts as full. Else prove '..UptoSaid'. A law counts once. -/
mutual
def uptoBulk {H : Type} : DataW H → Nat
  | .lit (.string bytes) => bytes.length + 1
  | .lit _ => 1
  | .nil => 1
  | .ptr d => uptoBulk d + 1
  | .slice elems spare => uptoBulkAll elems + uptoBulkAll spare + 1
  | .agg parts => uptoBulkAll parts + 1
  | .iface _ d => uptoBulk d + 1
  | .map entries => uptoBulkEntries entries + 1
  | .held _ => 1
def uptoBulkAll {H : Type} : List (DataW H) → Nat
  | [] => 0
  | d :: r => uptoBulk d + uptoBulkAll r
def uptoBulkEntries {H : Type} : List (Lit × DataW H) → Nat
  | [] => 0
  | x :: r => uptoBulkEntry x + uptoBulkEntries r
def uptoBulkEntry {H : Type} : Lit × DataW H → Nat
  | (.string bytes, d) => bytes.length + uptoBulk d + 1
  | (_, d) => uptoBulk d + 1
 end
def uptoSmall : (H : Type) → List (DataW H) → Bool := fun _ ds => decide (uptoBulkAll ds ≤ 1048576)
def OpenSpec.upto (s : _root_.Go.ChangeSpec) : _root_.Go.OpenSpec := { _root_.Go.OpenSpec.ofChange s with cond := some uptoSmall }

/-- 'galliardlaw43.WatchWords', WHERE WHAT IT READS IS OF BULK AT MOST 1048576: true; the input reads as it did. -/
def watchWordsUptoRow : OpenClaim := { program := "ytndmaehndikkaaa", sum := "0623a314d42b6337de4677a5fb68c3fd1b1b1b28a4c9db33a500c67472eb584d", func := "galliard/galliardlaw43.WatchWords", spec := "watchWords", unfollowed := true, recurses := true, plainKeys := false, apart := false, narrowed := true }
def WatchWordsUptoSaid : Prop := watchWordsUptoRow.holds Try.pinned (OpenSpec.upto watchWordsSpec)

/-- 'galliardlaw43.WatchSees', WHERE WHAT IT READS IS OF BULK AT MOST 1048576: true; the input reads as it did. -/
def watchSeesUptoRow : OpenClaim := { program := "ytndmaehndikkaaa", sum := "0623a314d42b6337de4677a5fb68c3fd1b1b1b28a4c9db33a500c67472eb584d", func := "galliard/galliardlaw43.WatchSees", spec := "watchSees", unfollowed := true, recurses := true, plainKeys := false, apart := false, narrowed := true }
def WatchSeesUptoSaid : Prop := watchSeesUptoRow.holds Try.pinned (OpenSpec.upto watchSeesSpec)

/-- 'galliardlaw22.WordsEnd', WHERE WHAT IT READS IS OF BULK AT MOST 1048576: true; the input reads as it did. -/
def wordsEndUptoRow : OpenClaim := { program := "ytndmaehndikkaaa", sum := "0623a314d42b6337de4677a5fb68c3fd1b1b1b28a4c9db33a500c67472eb584d", func := "galliard/galliardlaw22.WordsEnd", spec := "wordsEnd", unfollowed := true, recurses := true, plainKeys := false, apart := false, narrowed := true }
def WordsEndUptoSaid : Prop := wordsEndUptoRow.holds Try.pinned (OpenSpec.upto wordsEndSpec)

/-- 'galliardlaw21.LangShortest', WHERE WHAT IT READS IS OF BULK AT MOST 1048576: true; the input reads as it did. -/
def langShortestUptoRow : OpenClaim := { program := "ytndmaehndikkaaa", sum := "0623a314d42b6337de4677a5fb68c3fd1b1b1b28a4c9db33a500c67472eb584d", func := "galliard/galliardlaw21.LangShortest", spec := "langShortest", unfollowed := true, recurses := true, plainKeys := false, apart := false, narrowed := true }
def LangShortestUptoSaid : Prop := langShortestUptoRow.holds Try.pinned (OpenSpec.upto langShortestSpec)

/-- 'galliardlaw22.WordsWalk', WHERE WHAT IT READS IS OF BULK AT MOST 1048576: true; the input reads as it did. -/
def wordsWalkUptoRow : OpenClaim := { program := "ytndmaehndikkaaa", sum := "0623a314d42b6337de4677a5fb68c3fd1b1b1b28a4c9db33a500c67472eb584d", func := "galliard/galliardlaw22.WordsWalk", spec := "wordsWalk", unfollowed := true, recurses := true, plainKeys := false, apart := false, narrowed := true }
def WordsWalkUptoSaid : Prop := wordsWalkUptoRow.holds Try.pinned (OpenSpec.upto wordsWalkSpec)

end Rows
end Go.Proofs.Ytndmaehndikkaaa
