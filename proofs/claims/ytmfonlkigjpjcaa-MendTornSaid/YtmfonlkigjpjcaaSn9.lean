/-
  The contracts of galliardlaw37.bytes, awake37.
-/
import Derived.Test.YtmfonlkigjpjcaaSn5
import Derived.Test.YtmfonlkigjpjcaaSnP
import Derived.Test.YtmfonlkigjpjcaaCgP
namespace Go.Proofs.Ytmfonlkigjpjcaa
open Go.Ab
set_option linter.unusedSimpArgs false
set_option linter.unusedVariables false

theorem gen_head (n : BitVec 32) : genOk (headB n) = true ∧ get4 (headB n) 4 = n := by
  have h1 : get4 (headB n) 4 = n := by
    have := get4_app gall n
    rw [headB, List.append_assoc, get4_pre (l := gall ++ put4 n) (i := 4) (by simp [put4_len, gall])]
    exact this
  have h2 : get4 (headB n) 8 = crcSum (put4 n) := by
    have := get4_app (gall ++ put4 n) (crcSum (put4 n))
    rw [headB, get4_pre (show 8 + 4 ≤ (gall ++ put4 n ++ put4 (crcSum (put4 n))).length by simp [put4_len, gall])]
    exact this
  have h3 : (headB n).take 4 = gall := by
    rw [headB, List.append_assoc, List.append_assoc]; rfl
  have h4 : ((headB n).drop 4).take 4 = put4 n := by
    rw [headB, List.append_assoc, List.append_assoc]; rfl
  refine ⟨?_, h1⟩
  rw [genOk, headB_len, h3, h2, h4]
  simp

end Go.Proofs.Ytmfonlkigjpjcaa
