/-
  The contract of lang.Shortest.
-/
import Derived.Test.YtndmaehndikkaaaLg
import Derived.Test.YtndmaehndikkaaaMay
namespace Go.Proofs.Ytndmaehndikkaaa
open Go.Ab
set_option linter.unusedSimpArgs false
set_option linter.unusedVariables false

def ch1 (N : List (List Int)) (s : S2) (c : Nat) : Option S2 := if 0 ≤ toD N s.1 c then some (toD N s.1 c, 0) else none
def fin1 (F : List Bool) (s : S2) : Bool := decide (0 ≤ s.1) && F.getD s.1.toNat false
/-- The word of the first state that is such. -/
def srch (ch : S2 → Nat → Option S2) (z : S2) (L : Nat) (fin : S2 → Bool) : Nat → Nat → Option (List Nat)
  | 0, _ => none
  | n + 1, i => if i < (bQ ch z L i).length then (if fin ((bQ ch z L i).getD i (z, -1, -1)).1 = true then some (wordQ z (bQ ch z L i) (bQ ch z L i).length i) else srch ch z L fin n (i + 1)) else none
/-- The word found, if any. -/
def shW (R : Option (List Nat)) : List Int := match R with | some w => nInts w | none => []
theorem nInts_len (l : List Nat) : (nInts l).length = l.length := by simp [nInts]
theorem nInts_take (l : List Nat) (n : Nat) : (nInts l).take n = nInts (l.take n) := by simp [nInts]
def seenB (q : List (QE S2)) (k : Nat) : List Bool := (List.range k).map fun (t : Nat) => q.any fun e => e.1 == ((t : Int), (0 : Int))
theorem seenB_len (q : List (QE S2)) (k : Nat) : (seenB q k).length = k := by simp [seenB]
theorem seenB_get {q : List (QE S2)} {k t : Nat} (h : t < k) : (seenB q k).getD t false = q.any fun e => e.1 == ((t : Int), (0 : Int)) := by
  simp [seenB, List.getD, h]
theorem seenB_snoc (q : List (QE S2)) (k t : Nat) (u x : Int) : seenB (q ++ [(((t : Int), (0 : Int)), u, x)]) k = (seenB q k).set t true := by
  apply List.ext_getElem (by simp [seenB])
  intro j h1 h2
  rw [List.getElem_set]
  simp only [seenB, List.getElem_map, List.getElem_range, List.any_append, List.any_cons, List.any_nil, Bool.or_false]
  by_cases e : t = j
  · subst e
    rw [if_pos rfl]
    simp
  · rw [if_neg e]
    have : ((((t : Int), (0 : Int)) : S2) == ((j : Int), (0 : Int))) = false := by
      rw [beq_eq_false_iff_ne]
      intro q1
      have := congrArg Prod.fst q1
      simp only at this
      omega
    rw [this, Bool.or_false]
theorem seenB_one (k t : Nat) (u x : Int) : seenB [(((t : Int), (0 : Int)), u, x)] k = (List.replicate k false).set t true := by
  have h := seenB_snoc [] k t u x
  rw [List.nil_append] at h
  rw [h]
  congr 1
  apply List.ext_getElem (by simp [seenB])
  intro j h1 h2
  simp [seenB]

theorem ch1_len {L k : Nat} {N : List (List Int)} (h : NOk L k N) {st : Nat} (hst : st < k) {q : List (QE S2)} {i c : Nat} (hb : BInv (ch1 N) ((st : Int), 0) L q i c) : q.length ≤ k := by
  refine hb.len (fun s => s.1.toNat) k (by simpa using hst) (fun s x t ht => ?_) (fun s t hs ht e => ?_)
  · unfold ch1 at ht
    split at ht
    · cases ht
      have := toD_ok h s.1 x
      simp only; omega
    · cases ht
  · have key : ∀ s : S2, (s = ((st : Int), 0) ∨ ∃ r x, ch1 N r x = some s) → 0 ≤ s.1 ∧ s.2 = 0 := fun s hs => by
      rcases hs with rfl | ⟨r, x, hr⟩
      · exact ⟨by simp, rfl⟩
      · unfold ch1 at hr
        split at hr
        · rename_i h0; cases hr; exact ⟨h0, rfl⟩
        · cases hr
    obtain ⟨s1, s2⟩ := s
    obtain ⟨t1, t2⟩ := t
    obtain ⟨a1, a2⟩ := key _ hs
    obtain ⟨b1, b2⟩ := key _ ht
    simp only at a1 a2 b1 b2 e
    have : s1 = t1 := by omega
    rw [this, a2, b2]

set_option maxRecDepth 20000 in
set_option maxHeartbeats 16000000 in
theorem c_Short {L k : Nat} {N : List (List Int)} (h : NOk L k N) (st : Nat) (hst : st < k) (F : List Bool) (hF : F.length = k) (hL : L ≤ 100000) (hk : 1 ≤ k ∧ k ≤ 2000) :
    Contract Try.prog 23 [dfaD L st F N] (.tup [.sl (srch (ch1 N) ((st : Int), 0) L (fin1 F) 3000 0).isNone (ints (shW (srch (ch1 N) ((st : Int), 0) L (fin1 F) 3000 0))), bo (srch (ch1 N) ((st : Int), 0) L (fin1 F) 3000 0).isSome]) [] := by
  refine contract_of_awp (rs := [2, 3]) Try.func23 rfl Try.ntmps23 (by simp) rfl fun E => ?_
  generalize hRR : srch (ch1 N) ((st : Int), 0) L (fin1 F) 3000 0 = R
  have hl := h.len
  have hmay := c_May h st hst F hF hL hk
  have n0 : List.replicate (k : Int).toNat [D.v (Value.bool false)] = bos (List.replicate k false) := by simp [bos]
  have hone := seenB_one k st (-1) (-1)
  have hq1 : [[i64 (st : Int), D.v (Value.int IntKind.i64 0), D.v (Value.int IntKind.i64 (-1)), D.v (Value.int IntKind.i64 (-1))]] = qRows [(((st : Int), (0 : Int)), -1, -1)] := rfl
  (repeat (first | refine awp_seq ?_ | refine awp_block ?_ | ((first | refine awp_skip ?_ | refine awp_exit ?_ | refine awp_reg ttok ?_ | (refine awp_draw ttok ?dr_calm ?_; (case dr_calm => decide +kernel)) | refine awp_condM ?_); simp (maxSteps := 4000000) only [↓reduceIte, Nat.reduceLT, Nat.reduceEqDiff, reduceCtorEq, Nat.reduceAdd, Nat.reduceMul, Int.reduceLE, Int.reduceLT, Int.reduceToNat, Nat.reduceLeDiff, Nat.reduceSub, Int.reduceEq, Nat.reduceBEq, List.replicate, List.set, if_false, if_true, ne_eq, false_implies, implies_true, evA, tyA, dfaD]; (repeat (with_reducible refine And.intro ?_ ?_; focus ((repeat' with_reducible apply And.intro) <;> (first | omega | with_reducible trivial | with_reducible assumption)))); (with_reducible first | refine awp_id ?_ | refine id_call ?_ | refine id_and ?_ | refine id_ex ?_ | refine id_all ?_ | refine id_nat ?_ | refine id_le ?_))))
  refine callVC_scal fnok31 hmay rfl ?_
  simp (maxSteps := 4000000) only [↓reduceIte, Nat.reduceLT, Nat.reduceEqDiff, reduceCtorEq, Nat.reduceAdd, Nat.reduceMul, Int.reduceLE, Int.reduceLT, Int.reduceToNat, Nat.reduceLeDiff, Nat.reduceSub, Int.reduceEq, Nat.reduceBEq, List.replicate, List.set, if_false, if_true, ne_eq, false_implies, implies_true, evA, tyA]
  (repeat (with_reducible refine And.intro ?_ ?_; focus ((repeat' with_reducible apply And.intro) <;> (first | omega | with_reducible trivial | with_reducible assumption))))
  have n1 : List.replicate k (List.map ofAtom (Value.bool false).cells.toList) = bos (List.replicate k false) := by
    simp only [bos, List.map_replicate]; rfl
  have n2 := bos_get (l := List.replicate k false) (i := st) (by simpa using hst)
  have n3 : (bos (List.replicate k false)).set st [D.v (Value.bool true)] = bos ((List.replicate k false).set st true) := bos_set _ _ _
  (repeat (first | refine awp_seq ?_ | refine awp_block ?_ | ((first | refine awp_skip ?_ | refine awp_exit ?_ | refine awp_reg ttok ?_ | (refine awp_draw ttok ?dr_calm ?_; (case dr_calm => decide +kernel)) | refine awp_condM ?_); simp (maxSteps := 4000000) only [↓reduceIte, Nat.reduceLT, Nat.reduceEqDiff, reduceCtorEq, Nat.reduceAdd, Nat.reduceMul, Int.reduceLE, Int.reduceLT, Int.reduceToNat, Nat.reduceLeDiff, Nat.reduceSub, Int.reduceEq, Nat.reduceBEq, List.replicate, List.set, if_false, if_true, ne_eq, false_implies, implies_true, evA, tyA, iis_len, hl, n0, n1, bos_len, List.length_replicate]; (repeat (with_reducible refine And.intro ?_ ?_; focus ((repeat' with_reducible apply And.intro) <;> (first | omega | with_reducible trivial | with_reducible assumption)))); (with_reducible first | refine awp_id ?_ | refine id_call ?_ | refine id_and ?_ | refine id_ex ?_ | refine id_all ?_ | refine id_nat ?_ | refine id_le ?_))))
  refine awp_loop (X := Nat) (fun i => mkS 73 [(1, .ptr 1000 0 0), (4, .own 4003 0 (bQ (ch1 N) ((st : Int), 0) L i).length), (5, .own 5003 0 k), (6, i64 i)]
      [(1000, { sz := 4, rows := [[i64 L, i64 st, .sl false (bos F), .sl false (iis N)]], flat := false }), (4003, { sz := 4, rows := qRows (bQ (ch1 N) ((st : Int), 0) L i) }), (5003, { sz := 1, rows := bos (seenB (bQ (ch1 N) ((st : Int), 0) L i) k) })])
    (fun i => (∀ j, j < i → j < (bQ (ch1 N) ((st : Int), 0) L j).length) ∧ i ≤ (bQ (ch1 N) ((st : Int), 0) L i).length ∧ srch (ch1 N) ((st : Int), 0) L (fin1 F) (3000 - i) i = R) (fun i => k + 1 - i) 0 ⟨by simp, by simp, hRR⟩ (mkS_le rfl ?_ ?_) ?_
  · simp (maxSteps := 4000000) only [↓reduceIte, Nat.reduceLT, Nat.reduceEqDiff, reduceCtorEq, Nat.reduceAdd, Nat.reduceMul, Int.reduceLE, Int.reduceLT, Int.reduceToNat, Nat.reduceLeDiff, Nat.reduceSub, Int.reduceEq, Nat.reduceBEq, List.replicate, List.set, if_false, if_true, ne_eq, false_implies, implies_true, evA, bQ]
    try rfl
  · simp (maxSteps := 4000000) only [↓reduceIte, Nat.reduceLT, Nat.reduceEqDiff, reduceCtorEq, Nat.reduceAdd, Nat.reduceMul, Int.reduceLE, Int.reduceLT, Int.reduceToNat, Nat.reduceLeDiff, Nat.reduceSub, Int.reduceEq, Nat.reduceBEq, List.replicate, List.set, if_false, if_true, ne_eq, false_implies, implies_true, evA, bQ, n1, n2, n3, hone]
    try rfl
  · rintro i ⟨h1, h2, h3⟩
    have hb := bQ_inv (ch := ch1 N) (z := ((st : Int), 0)) (L := L) i h1
    have hqk := ch1_len h hst hb
    obtain ⟨n, hn⟩ : ∃ n, 3000 - i = n + 1 := ⟨2999 - i, by omega⟩
    have hnn : n = 3000 - (i + 1) := by omega
    rw [hn, srch] at h3
    have hnx : bQ (ch1 N) ((st : Int), 0) L (i + 1) = bRow (ch1 N) ((st : Int), 0) i (bQ (ch1 N) ((st : Int), 0) L i) L := rfl
    generalize hqe : bQ (ch1 N) ((st : Int), 0) L i = q at *
    by_cases hi : i < q.length
    · rw [if_pos hi] at h3
      have d1 : decide ((i : Int) < (q.length : Int)) = true := by simpa using hi
      have hg := qRows_get hi (((st : Int), 0), -1, -1)
      have hfc := c_final L st F N (q.getD i (((st : Int), 0), -1, -1)).1.1
      have hwc := c_word hb hL (by omega) false i hi
      have hrows := fun c hc => BInv.row hb hi c hc
      obtain ⟨⟨⟨a, b⟩, u, x⟩, hqi⟩ : ∃ e, q.getD i (((st : Int), 0), -1, -1) = e := ⟨_, rfl⟩
      rw [hqi] at hg hfc h3
      simp only at hg hfc h3
      have hfin : fin1 F (a, b) = (decide (0 ≤ a) && F.getD a.toNat false) := rfl
      rw [← hfin] at hfc
      (repeat (first | refine awp_seq ?_ | refine awp_block ?_ | ((first | refine awp_skip ?_ | refine awp_exit ?_ | refine awp_reg ttok ?_ | (refine awp_draw ttok ?dr_calm ?_; (case dr_calm => decide +kernel)) | refine awp_condM ?_); simp (maxSteps := 4000000) only [↓reduceIte, Nat.reduceLT, Nat.reduceEqDiff, reduceCtorEq, Nat.reduceAdd, Nat.reduceMul, Int.reduceLE, Int.reduceLT, Int.reduceToNat, Nat.reduceLeDiff, Nat.reduceSub, Int.reduceEq, Nat.reduceBEq, List.replicate, List.set, if_false, if_true, ne_eq, false_implies, implies_true, evA, tyA, qRows_len, d1]; (repeat (with_reducible refine And.intro ?_ ?_; focus ((repeat' with_reducible apply And.intro) <;> (first | omega | with_reducible trivial | with_reducible assumption)))); (with_reducible first | refine awp_id ?_ | refine id_call ?_ | refine id_and ?_ | refine id_ex ?_ | refine id_all ?_ | refine id_nat ?_ | refine id_le ?_))))
      refine awp_drawG ttok ((0, none) :: (1, none) :: (2, none) :: (3, none) :: (4, none) :: (5, none) :: (6, some []) :: []) ([]) ([]) (by decide +kernel) fun O hO => ?_; simp only [OpsAre, Nat.reduceAdd, and_true, List.toList_toArray, List.append_eq, List.cons_append, List.nil_append] at hO; simp (maxSteps := 4000000) only [↓reduceIte, Nat.reduceLT, Nat.reduceEqDiff, reduceCtorEq, Nat.reduceAdd, Nat.reduceMul, Int.reduceLE, Int.reduceLT, Int.reduceToNat, Nat.reduceLeDiff, Nat.reduceSub, Int.reduceEq, Nat.reduceBEq, List.replicate, List.set, if_false, if_true, ne_eq, false_implies, implies_true, evA, tyA, hO, qRows_len, hg]; (repeat (with_reducible refine And.intro ?_ ?_; focus ((repeat' with_reducible apply And.intro) <;> (first | omega | with_reducible trivial | with_reducible assumption))))
      refine callVC_scal fnok35 hfc rfl ?_
      simp (maxSteps := 4000000) only [↓reduceIte, Nat.reduceLT, Nat.reduceEqDiff, reduceCtorEq, Nat.reduceAdd, Nat.reduceMul, Int.reduceLE, Int.reduceLT, Int.reduceToNat, Nat.reduceLeDiff, Nat.reduceSub, Int.reduceEq, Nat.reduceBEq, List.replicate, List.set, if_false, if_true, ne_eq, false_implies, implies_true, evA, tyA, hO]
      (repeat (with_reducible refine And.intro ?_ ?_; focus ((repeat' with_reducible apply And.intro) <;> (first | omega | with_reducible trivial | with_reducible assumption))))
      cases hf : fin1 F (a, b)
      · rw [hf, if_neg (by simp)] at h3
        (repeat (first | refine awp_seq ?_ | refine awp_block ?_ | ((first | refine awp_skip ?_ | refine awp_exit ?_ | refine awp_reg ttok ?_ | (refine awp_draw ttok ?dr_calm ?_; (case dr_calm => decide +kernel)) | refine awp_condM ?_); simp (maxSteps := 4000000) only [↓reduceIte, Nat.reduceLT, Nat.reduceEqDiff, reduceCtorEq, Nat.reduceAdd, Nat.reduceMul, Int.reduceLE, Int.reduceLT, Int.reduceToNat, Nat.reduceLeDiff, Nat.reduceSub, Int.reduceEq, Nat.reduceBEq, List.replicate, List.set, if_false, if_true, ne_eq, false_implies, implies_true, evA, tyA]; (repeat (with_reducible refine And.intro ?_ ?_; focus ((repeat' with_reducible apply And.intro) <;> (first | omega | with_reducible trivial | with_reducible assumption)))); (with_reducible first | refine awp_id ?_ | refine id_call ?_ | refine id_and ?_ | refine id_ex ?_ | refine id_all ?_ | refine id_nat ?_ | refine id_le ?_))))
        refine awp_loop (X := Nat) (fun c => mkS 73 [(1, .ptr 1000 0 0), (4, .own 4003 0 (bRow (ch1 N) ((st : Int), 0) i q c).length), (5, .own 5003 0 k), (6, i64 i), (41, i64 L), (42, i64 c)]
            [(1000, { sz := 4, rows := [[i64 L, i64 st, .sl false (bos F), .sl false (iis N)]], flat := false }), (4003, { sz := 4, rows := qRows (bRow (ch1 N) ((st : Int), 0) i q c) }), (5003, { sz := 1, rows := bos (seenB (bRow (ch1 N) ((st : Int), 0) i q c) k) })])
          (fun c => c ≤ L) (fun c => L - c) 0 (Nat.zero_le _) (mkS_le rfl ?_ ?_) ?_
        · simp (maxSteps := 4000000) only [↓reduceIte, Nat.reduceLT, Nat.reduceEqDiff, reduceCtorEq, Nat.reduceAdd, Nat.reduceMul, Int.reduceLE, Int.reduceLT, Int.reduceToNat, Nat.reduceLeDiff, Nat.reduceSub, Int.reduceEq, Nat.reduceBEq, List.replicate, List.set, if_false, if_true, ne_eq, false_implies, implies_true, evA, bRow]
          try rfl
        · simp (maxSteps := 4000000) only [↓reduceIte, Nat.reduceLT, Nat.reduceEqDiff, reduceCtorEq, Nat.reduceAdd, Nat.reduceMul, Int.reduceLE, Int.reduceLT, Int.reduceToNat, Nat.reduceLeDiff, Nat.reduceSub, Int.reduceEq, Nat.reduceBEq, List.replicate, List.set, if_false, if_true, ne_eq, false_implies, implies_true, evA, bRow]
          try rfl
        · intro c hc
          by_cases hcl : c < L
          · have d2 : decide ((c : Int) < (L : Int)) = true := by simpa using hcl
            have hwi : IntKind.i64.wrap ((c : Int) + 1) = ((c + 1 : Nat) : Int) := i64_in (by omega) (by omega)
            obtain ⟨r1, r2⟩ := hrows c hc
            have hqi' : (bRow (ch1 N) ((st : Int), 0) i q c).getD i (((st : Int), 0), -1, -1) = ((a, b), u, x) := by
              rw [← hqi]; exact bRow_get _ _ hi c
            have hpk := ch1_len h hst r1
            have hstp : bRow (ch1 N) ((st : Int), 0) i q (c + 1) = bStep (ch1 N) ((st : Int), 0) i c (bRow (ch1 N) ((st : Int), 0) i q c) := rfl
            generalize bRow (ch1 N) ((st : Int), 0) i q c = p at *
            have hgp := qRows_get r2 (((st : Int), 0), -1, -1)
            rw [hqi'] at hgp
            simp only at hgp
            unfold bStep at hstp
            rw [hqi'] at hstp
            have htc := c_To h st F a c
            have hto := toD_ok h a c
            have hch : ch1 N (a, b) c = if 0 ≤ toD N a c then some (toD N a c, 0) else none := rfl
            simp only [hch] at hstp
            generalize toD N a c = t at *
            have hsl := seenB_len p k
            (repeat (first | refine awp_seq ?_ | refine awp_block ?_ | ((first | refine awp_skip ?_ | refine awp_exit ?_ | refine awp_reg ttok ?_ | (refine awp_draw ttok ?dr_calm ?_; (case dr_calm => decide +kernel)) | refine awp_condM ?_); simp (maxSteps := 4000000) only [↓reduceIte, Nat.reduceLT, Nat.reduceEqDiff, reduceCtorEq, Nat.reduceAdd, Nat.reduceMul, Int.reduceLE, Int.reduceLT, Int.reduceToNat, Nat.reduceLeDiff, Nat.reduceSub, Int.reduceEq, Nat.reduceBEq, List.replicate, List.set, if_false, if_true, ne_eq, false_implies, implies_true, evA, tyA, d2]; (repeat (with_reducible refine And.intro ?_ ?_; focus ((repeat' with_reducible apply And.intro) <;> (first | omega | with_reducible trivial | with_reducible assumption)))); (with_reducible first | refine awp_id ?_ | refine id_call ?_ | refine id_and ?_ | refine id_ex ?_ | refine id_all ?_ | refine id_nat ?_ | refine id_le ?_))))
            refine awp_drawG ttok ((0, none) :: (1, none) :: (2, none) :: (3, none) :: (4, none) :: (5, none) :: (6, none) :: (7, some []) :: (8, none) :: []) ([]) ([]) (by decide +kernel) fun O hO => ?_; simp only [OpsAre, Nat.reduceAdd, and_true, List.toList_toArray, List.append_eq, List.cons_append, List.nil_append] at hO; simp (maxSteps := 4000000) only [↓reduceIte, Nat.reduceLT, Nat.reduceEqDiff, reduceCtorEq, Nat.reduceAdd, Nat.reduceMul, Int.reduceLE, Int.reduceLT, Int.reduceToNat, Nat.reduceLeDiff, Nat.reduceSub, Int.reduceEq, Nat.reduceBEq, List.replicate, List.set, if_false, if_true, ne_eq, false_implies, implies_true, evA, tyA, hO, qRows_len, hgp]; (repeat (with_reducible refine And.intro ?_ ?_; focus ((repeat' with_reducible apply And.intro) <;> (first | omega | with_reducible trivial | with_reducible assumption))))
            refine callVC_scal fnok28 htc rfl ?_
            simp (maxSteps := 4000000) only [↓reduceIte, Nat.reduceLT, Nat.reduceEqDiff, reduceCtorEq, Nat.reduceAdd, Nat.reduceMul, Int.reduceLE, Int.reduceLT, Int.reduceToNat, Nat.reduceLeDiff, Nat.reduceSub, Int.reduceEq, Nat.reduceBEq, List.replicate, List.set, if_false, if_true, ne_eq, false_implies, implies_true, evA, tyA, hO]
            (repeat (with_reducible refine And.intro ?_ ?_; focus ((repeat' with_reducible apply And.intro) <;> (first | omega | with_reducible trivial | with_reducible assumption))))
            by_cases h0 : 0 ≤ t
            · have e1 : decide (t ≥ 0) = true := by simpa using h0
              rw [if_pos h0] at hstp
              simp only at hstp
              obtain ⟨y, rfl⟩ := Int.eq_ofNat_of_zero_le h0
              have hyk : y < k := by omega
              have hgb := bos_get (l := seenB p k) (i := y) (by omega)
              have hse := seenB_get (q := p) hyk
              rw [← hse] at hstp
              cases hq : (seenB p k).getD y false
              · rw [hq] at hgb
                rw [hq, if_neg (by simp)] at hstp
                have hsn := seenB_snoc p k y i c
                have s1 : (bos (seenB p k)).set y [D.v (Value.bool true)] = bos ((seenB p k).set y true) := bos_set _ _ _
                have hap := qRows_snoc p y 0 i c
                have htk : List.take p.length p = p := List.take_of_length_le (Nat.le_refl _)
                have r4 : ∀ d1 d2 d3 d4 : D, (∀ row ∈ [[d1, d2, d3, d4]], row.length = 4) = True := fun _ _ _ _ => by simp
                have hpl : (p ++ [(((y : Int), (0 : Int)), (i : Int), (c : Int))]).length = p.length + 1 := by simp
                (repeat (first | refine awp_seq ?_ | refine awp_block ?_ | ((first | refine awp_skip ?_ | refine awp_exit ?_ | refine awp_reg ttok ?_ | (refine awp_draw ttok ?dr_calm ?_; (case dr_calm => decide +kernel)) | refine awp_condM ?_); simp (maxSteps := 4000000) only [↓reduceIte, Nat.reduceLT, Nat.reduceEqDiff, reduceCtorEq, Nat.reduceAdd, Nat.reduceMul, Int.reduceLE, Int.reduceLT, Int.reduceToNat, Nat.reduceLeDiff, Nat.reduceSub, Int.reduceEq, Nat.reduceBEq, List.replicate, List.set, if_false, if_true, ne_eq, false_implies, implies_true, evA, tyA, e1, bos_len, hsl, hgb, qRows_len, qRows_take, htk, hap, r4, hwi]; (repeat (with_reducible refine And.intro ?_ ?_; focus ((repeat' with_reducible apply And.intro) <;> (first | omega | with_reducible trivial | with_reducible assumption)))); (with_reducible first | refine awp_id ?_ | refine id_call ?_ | refine id_and ?_ | refine id_ex ?_ | refine id_all ?_ | refine id_nat ?_ | refine id_le ?_))))
                refine ⟨c + 1, by omega, by omega, mkS_le rfl ?_ ?_⟩
                · simp (maxSteps := 4000000) only [↓reduceIte, Nat.reduceLT, Nat.reduceEqDiff, reduceCtorEq, Nat.reduceAdd, Nat.reduceMul, Int.reduceLE, Int.reduceLT, Int.reduceToNat, Nat.reduceLeDiff, Nat.reduceSub, Int.reduceEq, Nat.reduceBEq, List.replicate, List.set, if_false, if_true, ne_eq, false_implies, implies_true, evA, hstp, hpl]
                · simp (maxSteps := 4000000) only [↓reduceIte, Nat.reduceLT, Nat.reduceEqDiff, reduceCtorEq, Nat.reduceAdd, Nat.reduceMul, Int.reduceLE, Int.reduceLT, Int.reduceToNat, Nat.reduceLeDiff, Nat.reduceSub, Int.reduceEq, Nat.reduceBEq, List.replicate, List.set, if_false, if_true, ne_eq, false_implies, implies_true, evA, hstp, hsn, hgb, s1, qRows_take, htk, hap]
              · rw [hq] at hgb
                rw [hq, if_pos rfl] at hstp
                (repeat (first | refine awp_seq ?_ | refine awp_block ?_ | ((first | refine awp_skip ?_ | refine awp_exit ?_ | refine awp_reg ttok ?_ | (refine awp_draw ttok ?dr_calm ?_; (case dr_calm => decide +kernel)) | refine awp_condM ?_); simp (maxSteps := 4000000) only [↓reduceIte, Nat.reduceLT, Nat.reduceEqDiff, reduceCtorEq, Nat.reduceAdd, Nat.reduceMul, Int.reduceLE, Int.reduceLT, Int.reduceToNat, Nat.reduceLeDiff, Nat.reduceSub, Int.reduceEq, Nat.reduceBEq, List.replicate, List.set, if_false, if_true, ne_eq, false_implies, implies_true, evA, tyA, e1, bos_len, hsl, hgb, hwi]; (repeat (with_reducible refine And.intro ?_ ?_; focus ((repeat' with_reducible apply And.intro) <;> (first | omega | with_reducible trivial | with_reducible assumption)))); (with_reducible first | refine awp_id ?_ | refine id_call ?_ | refine id_and ?_ | refine id_ex ?_ | refine id_all ?_ | refine id_nat ?_ | refine id_le ?_))))
                refine ⟨c + 1, by omega, by omega, mkS_le rfl ?_ ?_⟩
                · simp (maxSteps := 4000000) only [↓reduceIte, Nat.reduceLT, Nat.reduceEqDiff, reduceCtorEq, Nat.reduceAdd, Nat.reduceMul, Int.reduceLE, Int.reduceLT, Int.reduceToNat, Nat.reduceLeDiff, Nat.reduceSub, Int.reduceEq, Nat.reduceBEq, List.replicate, List.set, if_false, if_true, ne_eq, false_implies, implies_true, evA, hstp]
                · simp (maxSteps := 4000000) only [↓reduceIte, Nat.reduceLT, Nat.reduceEqDiff, reduceCtorEq, Nat.reduceAdd, Nat.reduceMul, Int.reduceLE, Int.reduceLT, Int.reduceToNat, Nat.reduceLeDiff, Nat.reduceSub, Int.reduceEq, Nat.reduceBEq, List.replicate, List.set, if_false, if_true, ne_eq, false_implies, implies_true, evA, hstp]
            · have e1 : decide (t ≥ 0) = false := by simpa using h0
              rw [if_neg h0] at hstp
              simp only at hstp
              (repeat (first | refine awp_seq ?_ | refine awp_block ?_ | ((first | refine awp_skip ?_ | refine awp_exit ?_ | refine awp_reg ttok ?_ | (refine awp_draw ttok ?dr_calm ?_; (case dr_calm => decide +kernel)) | refine awp_condM ?_); simp (maxSteps := 4000000) only [↓reduceIte, Nat.reduceLT, Nat.reduceEqDiff, reduceCtorEq, Nat.reduceAdd, Nat.reduceMul, Int.reduceLE, Int.reduceLT, Int.reduceToNat, Nat.reduceLeDiff, Nat.reduceSub, Int.reduceEq, Nat.reduceBEq, List.replicate, List.set, if_false, if_true, ne_eq, false_implies, implies_true, evA, tyA, e1, hwi]; (repeat (with_reducible refine And.intro ?_ ?_; focus ((repeat' with_reducible apply And.intro) <;> (first | omega | with_reducible trivial | with_reducible assumption)))); (with_reducible first | refine awp_id ?_ | refine id_call ?_ | refine id_and ?_ | refine id_ex ?_ | refine id_all ?_ | refine id_nat ?_ | refine id_le ?_))))
              refine ⟨c + 1, by omega, by omega, mkS_le rfl ?_ ?_⟩
              · simp (maxSteps := 4000000) only [↓reduceIte, Nat.reduceLT, Nat.reduceEqDiff, reduceCtorEq, Nat.reduceAdd, Nat.reduceMul, Int.reduceLE, Int.reduceLT, Int.reduceToNat, Nat.reduceLeDiff, Nat.reduceSub, Int.reduceEq, Nat.reduceBEq, List.replicate, List.set, if_false, if_true, ne_eq, false_implies, implies_true, evA, hstp]
              · simp (maxSteps := 4000000) only [↓reduceIte, Nat.reduceLT, Nat.reduceEqDiff, reduceCtorEq, Nat.reduceAdd, Nat.reduceMul, Int.reduceLE, Int.reduceLT, Int.reduceToNat, Nat.reduceLeDiff, Nat.reduceSub, Int.reduceEq, Nat.reduceBEq, List.replicate, List.set, if_false, if_true, ne_eq, false_implies, implies_true, evA, hstp]
          · have d2 : decide ((c : Int) < (L : Int)) = false := by simpa using hcl
            obtain rfl : c = L := by omega
            obtain ⟨r1, r2⟩ := hrows c (Nat.le_refl _)
            have hwi : IntKind.i64.wrap ((i : Int) + 1) = ((i + 1 : Nat) : Int) := i64_in (by omega) (by omega)
            rw [← hnx] at r2 ⊢
            (repeat (first | refine awp_seq ?_ | refine awp_block ?_ | ((first | refine awp_skip ?_ | refine awp_exit ?_ | refine awp_reg ttok ?_ | (refine awp_draw ttok ?dr_calm ?_; (case dr_calm => decide +kernel)) | refine awp_condM ?_); simp (maxSteps := 4000000) only [↓reduceIte, Nat.reduceLT, Nat.reduceEqDiff, reduceCtorEq, Nat.reduceAdd, Nat.reduceMul, Int.reduceLE, Int.reduceLT, Int.reduceToNat, Nat.reduceLeDiff, Nat.reduceSub, Int.reduceEq, Nat.reduceBEq, List.replicate, List.set, if_false, if_true, ne_eq, false_implies, implies_true, evA, tyA, d2, hwi]; (repeat (with_reducible refine And.intro ?_ ?_; focus ((repeat' with_reducible apply And.intro) <;> (first | omega | with_reducible trivial | with_reducible assumption)))); (with_reducible first | refine awp_id ?_ | refine id_call ?_ | refine id_and ?_ | refine id_ex ?_ | refine id_all ?_ | refine id_nat ?_ | refine id_le ?_))))
            refine ⟨i + 1, ⟨fun j hj => ?_, by omega, by rw [← hnn]; exact h3⟩, by omega, mkS_le rfl ?_ ?_⟩
            · rcases Nat.lt_or_ge j i with g | g
              · exact h1 j g
              · obtain rfl : j = i := by omega
                rw [hqe]; exact hi
            · simp (maxSteps := 4000000) only [↓reduceIte, Nat.reduceLT, Nat.reduceEqDiff, reduceCtorEq, Nat.reduceAdd, Nat.reduceMul, Int.reduceLE, Int.reduceLT, Int.reduceToNat, Nat.reduceLeDiff, Nat.reduceSub, Int.reduceEq, Nat.reduceBEq, List.replicate, List.set, if_false, if_true, ne_eq, false_implies, implies_true, evA]
            · simp (maxSteps := 4000000) only [↓reduceIte, Nat.reduceLT, Nat.reduceEqDiff, reduceCtorEq, Nat.reduceAdd, Nat.reduceMul, Int.reduceLE, Int.reduceLT, Int.reduceToNat, Nat.reduceLeDiff, Nat.reduceSub, Int.reduceEq, Nat.reduceBEq, List.replicate, List.set, if_false, if_true, ne_eq, false_implies, implies_true, evA]
      · rw [hf, if_pos rfl] at h3
        rw [← h3]
        have htk : List.take q.length q = q := List.take_of_length_le (Nat.le_refl _)
        (repeat (first | refine awp_seq ?_ | refine awp_block ?_ | ((first | refine awp_skip ?_ | refine awp_exit ?_ | refine awp_reg ttok ?_ | (refine awp_draw ttok ?dr_calm ?_; (case dr_calm => decide +kernel)) | refine awp_condM ?_); simp (maxSteps := 4000000) only [↓reduceIte, Nat.reduceLT, Nat.reduceEqDiff, reduceCtorEq, Nat.reduceAdd, Nat.reduceMul, Int.reduceLE, Int.reduceLT, Int.reduceToNat, Nat.reduceLeDiff, Nat.reduceSub, Int.reduceEq, Nat.reduceBEq, List.replicate, List.set, if_false, if_true, ne_eq, false_implies, implies_true, evA, tyA, qRows_len, qRows_take, htk]; (repeat (with_reducible refine And.intro ?_ ?_; focus ((repeat' with_reducible apply And.intro) <;> (first | omega | with_reducible trivial | with_reducible assumption)))); (with_reducible first | refine awp_id ?_ | refine id_call ?_ | refine id_and ?_ | refine id_ex ?_ | refine id_all ?_ | refine id_nat ?_ | refine id_le ?_))))
        refine callVC_mk fnok36 hwc rfl ?_
        simp (maxSteps := 4000000) only [↓reduceIte, Nat.reduceLT, Nat.reduceEqDiff, reduceCtorEq, Nat.reduceAdd, Nat.reduceMul, Int.reduceLE, Int.reduceLT, Int.reduceToNat, Nat.reduceLeDiff, Nat.reduceSub, Int.reduceEq, Nat.reduceBEq, List.replicate, List.set, if_false, if_true, ne_eq, false_implies, implies_true, evA, tyA, qRows_len]
        (repeat (with_reducible refine And.intro ?_ ?_; focus ((repeat' with_reducible apply And.intro) <;> (first | omega | with_reducible trivial | with_reducible assumption))))
        (repeat (first | refine awp_seq ?_ | refine awp_block ?_ | ((first | refine awp_skip ?_ | refine awp_exit ?_ | refine awp_reg ttok ?_ | (refine awp_draw ttok ?dr_calm ?_; (case dr_calm => decide +kernel)) | refine awp_condM ?_); simp (maxSteps := 4000000) only [↓reduceIte, Nat.reduceLT, Nat.reduceEqDiff, reduceCtorEq, Nat.reduceAdd, Nat.reduceMul, Int.reduceLE, Int.reduceLT, Int.reduceToNat, Nat.reduceLeDiff, Nat.reduceSub, Int.reduceEq, Nat.reduceBEq, List.replicate, List.set, if_false, if_true, ne_eq, false_implies, implies_true, evA, tyA]; (repeat (with_reducible refine And.intro ?_ ?_; focus ((repeat' with_reducible apply And.intro) <;> (first | omega | with_reducible trivial | with_reducible assumption)))); (with_reducible first | refine awp_id ?_ | refine id_call ?_ | refine id_and ?_ | refine id_ex ?_ | refine id_all ?_ | refine id_nat ?_ | refine id_le ?_))))
        refine awp_pure 2 (d := .own 111002 0 (wordQ ((st : Int), 0) q q.length i).length) (by simp (maxSteps := 4000000) only [↓reduceIte, Nat.reduceLT, Nat.reduceEqDiff, reduceCtorEq, Nat.reduceAdd, Nat.reduceMul, Int.reduceLE, Int.reduceLT, Int.reduceToNat, Nat.reduceLeDiff, Nat.reduceSub, Int.reduceEq, Nat.reduceBEq, List.replicate, List.set, if_false, if_true, ne_eq, false_implies, implies_true, evA]) (by simp (maxSteps := 4000000) only [↓reduceIte, Nat.reduceLT, Nat.reduceEqDiff, reduceCtorEq, Nat.reduceAdd, Nat.reduceMul, Int.reduceLE, Int.reduceLT, Int.reduceToNat, Nat.reduceLeDiff, Nat.reduceSub, Int.reduceEq, Nat.reduceBEq, List.replicate, List.set, if_false, if_true, ne_eq, false_implies, implies_true, evA]; rfl) (by simp (maxSteps := 4000000) only [↓reduceIte, Nat.reduceLT, Nat.reduceEqDiff, reduceCtorEq, Nat.reduceAdd, Nat.reduceMul, Int.reduceLE, Int.reduceLT, Int.reduceToNat, Nat.reduceLeDiff, Nat.reduceSub, Int.reduceEq, Nat.reduceBEq, List.replicate, List.set, if_false, if_true, ne_eq, false_implies, implies_true, evA, nInts_len]) ?_
        refine awp_ret (ends_plain (.inr rfl) rfl ?_)
        simp (maxSteps := 4000000) only [↓reduceIte, Nat.reduceLT, Nat.reduceEqDiff, reduceCtorEq, Nat.reduceAdd, Nat.reduceMul, Int.reduceLE, Int.reduceLT, Int.reduceToNat, Nat.reduceLeDiff, Nat.reduceSub, Int.reduceEq, Nat.reduceBEq, List.replicate, List.set, if_false, if_true, ne_eq, false_implies, implies_true, evA, shW, nInts_take, List.take_length]
        try rfl
    · rw [if_neg hi] at h3
      have d1 : decide ((i : Int) < (q.length : Int)) = false := by simpa using hi
      rw [← h3]
      (repeat (first | refine awp_seq ?_ | refine awp_block ?_ | ((first | refine awp_skip ?_ | refine awp_exit ?_ | refine awp_reg ttok ?_ | (refine awp_draw ttok ?dr_calm ?_; (case dr_calm => decide +kernel)) | refine awp_condM ?_); simp (maxSteps := 4000000) only [↓reduceIte, Nat.reduceLT, Nat.reduceEqDiff, reduceCtorEq, Nat.reduceAdd, Nat.reduceMul, Int.reduceLE, Int.reduceLT, Int.reduceToNat, Nat.reduceLeDiff, Nat.reduceSub, Int.reduceEq, Nat.reduceBEq, List.replicate, List.set, if_false, if_true, ne_eq, false_implies, implies_true, evA, tyA, qRows_len, d1]; (repeat (with_reducible refine And.intro ?_ ?_; focus ((repeat' with_reducible apply And.intro) <;> (first | omega | with_reducible trivial | with_reducible assumption)))); (with_reducible first | refine awp_id ?_ | refine id_call ?_ | refine id_and ?_ | refine id_ex ?_ | refine id_all ?_ | refine id_nat ?_ | refine id_le ?_))))
      exact awp_ret (ends_plain (.inr rfl) rfl (by simp (maxSteps := 4000000) only [↓reduceIte, Nat.reduceLT, Nat.reduceEqDiff, reduceCtorEq, Nat.reduceAdd, Nat.reduceMul, Int.reduceLE, Int.reduceLT, Int.reduceToNat, Nat.reduceLeDiff, Nat.reduceSub, Int.reduceEq, Nat.reduceBEq, List.replicate, List.set, if_false, if_true, ne_eq, false_implies, implies_true, evA, shW] <;> rfl))

end Go.Proofs.Ytndmaehndikkaaa
