/-
  All words of a length, up to a length: the contracts of galliardref18.Words, Upto.
-/
import Derived.Test.YtbhjmioegdgpnaaTy
import Derived.Test.YtbhjmioegdgpnaaDfa
import Derived.Test.YtbhjmioegdgpnaaLv
namespace Go.Proofs.Ytbhjmioegdgpnaa
open Go.Ab
set_option linter.unusedSimpArgs false
set_option linter.unusedVariables false

def ext (L : Nat) (w : List Int) : List (List Int) := (List.range L).map fun (a : Nat) => w ++ [(a : Int)]
end Go.Proofs.Ytbhjmioegdgpnaa
