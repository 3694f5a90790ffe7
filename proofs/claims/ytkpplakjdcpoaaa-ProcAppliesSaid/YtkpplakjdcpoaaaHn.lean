import Derived.Test.YtkpplakjdcpoaaaNfa
import Derived.Test.YtkpplakjdcpoaaaDn
import Derived.Test.YtkpplakjdcpoaaaTy
import Derived.Test.YtkpplakjdcpoaaaFam
set_option linter.unusedSimpArgs false
set_option linter.unusedVariables false
namespace Go.Proofs.Ytkpplakjdcpoaaa
open Go.Ab
def famB (B n : Nat) (g : Nat → AObj) : List (Nat × AObj) := (List.range n).map fun r => (r + B, g r)
def ownRowsB (B n : Nat) (g : Nat → Nat) : List (List D) := (List.range n).map fun r => [D.own (r + B) 0 (g r)]
theorem ownRowsB_len (B n : Nat) (g : Nat → Nat) : (ownRowsB B n g).length = n := by simp [ownRowsB]
theorem ownRowsB_get {B n f : Nat} {g : Nat → Nat} (h : f < n) : (ownRowsB B n g).getD f [] = [D.own (f + B) 0 (g f)] := by simp [ownRowsB, List.getD, h]
theorem ownRowsB_kill {B n k : Nat} {g : Nat → Nat} (h : k < B ∨ B + n ≤ k) : (ownRowsB B n g).map (D.killL k) = ownRowsB B n g := by
  simp only [ownRowsB, List.map_map]
  apply List.map_congr_left
  intro r hr
  have := List.mem_range.1 hr
  simp only [Function.comp, D.killL, D.kill]
  rw [if_neg (by omega)]
theorem lk_famB {B n : Nat} {g : Nat → AObj} {f : Nat} (h : f < n) : lk (famB B n g) (f + B) = some (g f) := by
  induction n with
  | zero => omega
  | succ n ih =>
    rw [famB, List.range_succ, List.map_append, ← famB, lk_app]
    rcases Nat.lt_or_ge f n with q | q
    · rw [ih q]
    · have : f = n := by omega
      subst this
      rw [lk_none (by intro x hx; obtain ⟨r, hr, rfl⟩ := List.mem_map.1 hx; have := List.mem_range.1 hr; simp; omega)]
      simp [lk]
theorem lk_famBN {B n : Nat} {g : Nat → AObj} {k : Nat} (h : k < B ∨ B + n ≤ k) : lk (famB B n g) k = none :=
  lk_none (by intro x hx; obtain ⟨r, hr, rfl⟩ := List.mem_map.1 hx; have := List.mem_range.1 hr; simp; omega)
theorem knowsH_famB {st : St} {B n : Nat} {g : Nat → AObj} : KnowsH st (famB B n g) = ∀ r, r < n → st.heap (r + B) = some (g r) := by
  rw [eq_iff_iff, knowsH_iff]
  simp [famB]
theorem purLL_ownB {B : Nat} {h : Nat → Option AObj} {len : Nat → Nat} {g : Nat → AObj} : ∀ (l : List Nat), (∀ r ∈ l, h (r + B) = some (g r) ∧ (g r).flat = true ∧ (g r).rows.length = len r) →
    ∃ p, purLL (pur h 4) (l.map fun r => [D.own (r + B) 0 (len r)]) = some (l.map (· + B), p, l.map fun r => [D.sl false (g r).rows]) ∧ p
  | [], _ => ⟨True, rfl, trivial⟩
  | r :: l, hg => by
    obtain ⟨p, e, hp⟩ := purLL_ownB (h := h) (len := len) (g := g) l fun r hr => hg r (by simp [hr])
    obtain ⟨h1, h2, h3⟩ := hg r (by simp)
    refine ⟨((0 + len r ≤ (g r).rows.length) ∧ True) ∧ p, ?_, ⟨⟨by omega, trivial⟩, hp⟩⟩
    rw [List.map_cons, purLL, e]
    simp only [purL, pur, purB, h1, h2, if_true, List.nil_append, List.cons_append, List.map_cons, List.append_nil, List.drop_zero, List.take_of_length_le (Nat.le_of_eq h3)]
def lowB_ (B k : Nat) : Bool := decide (k < B)
mutual
theorem kill_lowB {B k : Nat} (hk : B ≤ k) : ∀ {d : D}, d.all (lowB_ B) = true → d.kill k = d
  | .v _, _ => rfl
  | .agg cs, h => by simp only [D.kill, D.all] at *; rw [killL_lowB hk h]
  | .tup cs, h => by simp only [D.kill, D.all] at *; rw [killL_lowB hk h]
  | .sl _ _, _ => rfl
  | .ref _ _, _ => rfl
  | .own id _ _, h => by
    simp only [D.all, lowB_, decide_eq_true_eq] at h
    simp only [D.kill]; rw [if_neg (by omega)]
  | .ptr id _ _, h => by
    simp only [D.all, lowB_, decide_eq_true_eq] at h
    simp only [D.kill]; rw [if_neg (by omega)]
  | .fn _ _ cs, h => by simp only [D.kill, D.all] at *; rw [killL_lowB hk h]
  | .junk, _ => rfl
theorem killL_lowB {B k : Nat} (hk : B ≤ k) : ∀ {cs : List D}, D.allL (lowB_ B) cs = true → D.killL k cs = cs
  | [], _ => rfl
  | c :: cs, h => by
    simp only [D.killL, D.allL, Bool.and_eq_true] at *
    rw [kill_lowB hk h.1, killL_lowB hk h.2]
end
theorem killO_lowB {B k : Nat} (hk : B ≤ k) {o : AObj} (h : o.all (lowB_ B) = true) : o.kill k = o := by
  unfold AObj.kill
  split
  · rfl
  · rename_i hf
    simp only [AObj.all, Bool.or_eq_true] at h
    have h := h.resolve_left (by simpa using hf)
    have : o.rows.map (D.killL k) = o.rows := by
      rw [List.all_eq_true] at h
      conv => rhs; rw [← List.map_id o.rows]
      apply List.map_congr_left
      intro row hr
      rw [killL_lowB hk (h row hr)]; rfl
    rw [this]
def LowS (B : Nat) (f : Nat → Option D) : Prop := ∀ t d, f t = some d → d.all (lowB_ B) = true
def LowH (B : Nat) (h : Nat → Option AObj) : Prop := ∀ id o, h id = some o → id < B ∧ o.all (lowB_ B) = true
theorem LowS.upd {B : Nat} {f : Nat → Option D} (h : LowS B f) {t : Nat} {d : D} (hd : d.all (lowB_ B) = true) : LowS B (upd f t d) := fun u e he => by
  simp only [Go.Ab.upd] at he
  split at he
  · cases he; exact hd
  · exact h u e he
theorem LowS.lk {B : Nat} {l : List (Nat × D)} (h : (l.all fun x => x.2.all (lowB_ B)) = true) : LowS B (lk l) := fun t d hd => by
  rw [List.all_eq_true] at h
  exact h _ (lk_mem hd)
theorem LowH.lk {B : Nat} {l : List (Nat × AObj)} (h : (l.all fun x => decide (x.1 < B) && x.2.all (lowB_ B)) = true) : LowH B (lk l) := fun t d hd => by
  rw [List.all_eq_true] at h
  have := h _ (lk_mem hd)
  simpa using this
theorem LowS.kill {B k : Nat} {f : Nat → Option D} (h : LowS B f) (hk : B ≤ k) : killS k f = f := by
  funext t
  simp only [killS]
  cases e : f t with
  | none => rfl
  | some d => rw [Option.map_some, kill_lowB hk (h t d e)]
theorem LowH.kill {B k : Nat} {f : Nat → Option AObj} (h : LowH B f) (hk : B ≤ k) : killH k f = f := by
  funext t
  simp only [killH]
  split
  · rename_i e
    cases h' : f t with
    | none => rfl
    | some o => have := (h t o h').1; omega
  · cases e : f t with
    | none => rfl
    | some d => rw [Option.map_some, killO_lowB hk (h t d e).2]
theorem adopt_fam {B nid : Nat} {st : St} (hB : B ≤ nid) (hS : LowS B st.slots) (hH : LowH B st.heap) (n : Nat) (g : Nat → AObj) (hg : ∀ r, (g r).flat = true) : ∀ (a j : Nat), a + j = n →
    (St.adoptL st nid ((List.range' a j).map g) (a + 2)).slots = st.slots ∧ (∀ id, (St.adoptL st nid ((List.range' a j).map g) (a + 2)).heap id = if nid + 2 + a ≤ id ∧ id < nid + 2 + a + j then some (g (id - nid - 2)) else st.heap id) ∧ (St.adoptL st nid ((List.range' a j).map g) (a + 2)).n = st.n ∧ (St.adoptL st nid ((List.range' a j).map g) (a + 2)).mp = st.mp
  | a, 0, h => by
    refine ⟨rfl, fun id => ?_, rfl, rfl⟩
    rw [if_neg (by omega)]; rfl
  | a, j + 1, h => by
    obtain ⟨i1, i2, i3, i4⟩ := adopt_fam hB hS hH n g hg (a + 1) j (by omega)
    rw [List.range'_succ, List.map_cons]
    simp only [St.adoptL, St.bind]
    have hren : (g a).ren (nid + ·) = g a := by unfold AObj.ren; rw [if_pos (hg a)]
    have hk : (g a).kill (nid + (a + 2)) = g a := by unfold AObj.kill; rw [if_pos (hg a)]
    refine ⟨?_, fun id => ?_, i3, i4⟩
    · rw [i1]; exact hS.kill (by omega)
    · simp only [upd, hren, hk, killH]
      by_cases e : id = nid + (a + 2)
      · rw [if_pos e, if_pos (by omega)]
        rw [show id - nid - 2 = a by omega]
      · rw [if_neg e, if_neg e, i2]
        by_cases q : nid + 2 + (a + 1) ≤ id ∧ id < nid + 2 + (a + 1) + j
        · rw [if_pos q, if_pos (by omega), Option.map_some]
          unfold AObj.kill
          rw [if_pos (hg _)]
        · rw [if_neg q, if_neg (by omega)]
          cases e2 : st.heap id with
          | none => rfl
          | some o => rw [Option.map_some, killO_lowB (by omega) (hH id o e2).2]
theorem adopt_two {B nid : Nat} {st : St} {hp : List (Nat × AObj)} (hh : st.heap = lk hp) (hB : B ≤ nid) (hS : LowS B st.slots) (hH : LowH B st.heap) (k : Nat) (o1 : AObj) (len : Nat → Nat) (g : Nat → AObj) (h1 : o1.flat = true) (hg : ∀ r, (g r).flat = true) :
    (st.freeze []).adoptL nid (o1 :: { sz := 1, rows := (List.range k).map fun r => [D.own (r + 2) 0 (len r)], flat := false } :: (List.range k).map g) 0 = { st with heap := lk ((nid, o1) :: (nid + 1, { sz := 1, rows := ownRowsB (nid + 2) k len, flat := false }) :: (famB (nid + 2) k g ++ hp)) } := by
  have hfr : st.freeze [] = st := by
    cases st
    simp [St.freeze]
  rw [hfr]
  obtain ⟨i1, i2, i3, i4⟩ := adopt_fam hB hS hH k g hg 0 k (by omega)
  rw [← List.range_eq_range'] at i1 i2 i3 i4
  simp only [St.adoptL, St.bind, Nat.zero_add, Nat.add_zero] at *
  generalize St.adoptL st nid ((List.range k).map g) 2 = X at *
  have r1 : o1.ren (nid + ·) = o1 := by unfold AObj.ren; rw [if_pos h1]
  have r2 : ({ sz := 1, rows := (List.range k).map fun r => [D.own (r + 2) 0 (len r)], flat := false } : AObj).ren (nid + ·) = { sz := 1, rows := ownRowsB (nid + 2) k len, flat := false } := by
    simp only [AObj.ren, Bool.false_eq_true, if_false, List.map_map, ownRowsB, AObj.mk.injEq, true_and, and_true]
    apply List.map_congr_left
    intro r hr
    simp only [Function.comp, D.renL, D.ren, List.cons.injEq, D.own.injEq, and_true]
    omega
  have k1 : o1.kill nid = o1 := by unfold AObj.kill; rw [if_pos h1]
  have k2 : ∀ j, j = nid ∨ j = nid + 1 → ({ sz := 1, rows := ownRowsB (nid + 2) k len, flat := false } : AObj).kill j = { sz := 1, rows := ownRowsB (nid + 2) k len, flat := false } := fun j hj => by
    unfold AObj.kill
    simp only [Bool.false_eq_true, if_false]
    rw [ownRowsB_kill (by omega)]
  rw [r1, r2, k1, k2 _ (.inr rfl)]
  obtain ⟨xn, xs, xh, xm⟩ := X
  simp only at i1 i2 i3 i4
  subst i1 i3 i4
  have hs1 : killS (nid + 1) st.slots = st.slots := hS.kill (by omega)
  have hs0 : killS nid st.slots = st.slots := hS.kill hB
  rw [hs1, hs0]
  congr 1
  funext id
  simp only [upd, killH, lk]
  by_cases e0 : id = nid
  · rw [if_pos e0, if_pos e0]
  · rw [if_neg e0, if_neg e0, if_neg e0]
    by_cases e1 : id = nid + 1
    · rw [if_pos e1, if_pos e1, Option.map_some, k2 _ (.inl rfl)]
    · rw [if_neg e1, if_neg e1, if_neg e1, i2, lk_app]
      by_cases q : nid + 2 ≤ id ∧ id < nid + 2 + k
      · rw [if_pos q]
        obtain ⟨r, rfl⟩ : ∃ r, id = r + (nid + 2) := ⟨id - (nid + 2), by omega⟩
        rw [lk_famB (by omega), show r + (nid + 2) - nid - 2 = r by omega]
        have hk : ∀ j, (g r).kill j = g r := fun j => by unfold AObj.kill; rw [if_pos (hg _)]
        simp only [Option.map_some, hk]
      · rw [if_neg q, lk_famBN (by omega), hh]
        cases e2 : lk hp id with
        | none => rfl
        | some o =>
          have := hH id o (by rw [hh]; exact e2)
          rw [Option.map_some, Option.map_some, killO_lowB (by omega) this.2, killO_lowB (by omega) this.2]
set_option maxRecDepth 20000 in
set_option maxHeartbeats 32000000 in
theorem c_DNfaO {L k : Nat} {N : List (List Int)} (h : NOk L k N) (hL : L ≤ 1000) (hk : 1 ≤ k ∧ k ≤ 2000) (st : Nat) (F : List Bool) (hF : F.length = k) : Contract Try.prog 35 [dfaD L st F N] (.agg [i64 L, i64 st, .own 0 0 k, .own 1 0 k]) ({ sz := 1, rows := bos F } :: { sz := 1, rows := (List.range k).map fun r => [D.own (r + 2) 0 (rowLen N r)], flat := false } :: (List.range k).map (rowObj N)) := by
  refine contract_of_awpV ttok (rs := [.cell 2 75]) Try.func35 rfl Try.ntmps35 (by simp) rfl fun E => ?_
  have hl := h.len
  have hCl := c_CloneBo false F (by omega) (by rintro rfl; simp at hF; omega)
  (repeat (first | refine awp_seq ?_ | refine awp_block ?_ | ((first | refine awp_skip ?_ | refine awp_exit ?_ | refine awp_reg ttok ?_ | (refine awp_draw ttok ?dr_calm ?_; (case dr_calm => decide +kernel)) | refine awp_condM ?_); simp (maxSteps := 4000000) only [↓reduceIte, Nat.reduceLT, Nat.reduceEqDiff, reduceCtorEq, Nat.reduceAdd, Nat.reduceMul, Int.reduceLE, Int.reduceLT, Int.reduceToNat, Nat.reduceLeDiff, Nat.reduceSub, Int.reduceEq, Nat.reduceBEq, evB, tyA, dfaD]; (repeat (with_reducible refine And.intro ?_ ?_; exact sdX)); (with_reducible first | refine awp_id ?_ | refine id_call ?_ | refine id_and ?_ | refine id_ex ?_ | refine id_all ?_ | refine id_nat ?_ | refine id_le ?_))))
  refine awp_drawS ttok (mkS 48 [(1, .ptr 1000 0 0), (2, .ptr 1001 0 0), (3, .ptr 2008 0 0)] [(1000, { sz := 4, rows := [[i64 L, i64 st, .sl false (bos F), .sl false (iis N)]], flat := false }), (1001, { sz := 4, rows := [[i64 0, i64 0, .sl true [], .sl true []]], flat := false }), (102006, { sz := 1, rows := bos F }), (2008, { sz := 4, rows := [[i64 L, i64 st, .own 102006 0 F.length, .sl true []]], flat := false })]) (.nd 6 8 .lf .lf) [((0, none) :: (1, none) :: (2, none) :: (3, none) :: (4, none) :: (5, none) :: (8, some [0, 1, 2, 3, 4, 5]) :: (6, some [0, 1, 2, 3]) :: (7, none) :: (9, some []) :: []), ((0, none) :: (1, none) :: (2, none) :: (3, none) :: (4, none) :: (5, none) :: (6, some [0, 1, 2, 3]) :: (7, none) :: (8, some [0, 1, 2, 3, 7]) :: (9, some []) :: [])] [0, 1, 2, 3, 4, 5, 6, 7, 8, 9] [] [] (by decide +kernel) ?_ (fun O hO => ?_)
  rotate_left
  · simp only [OpsAre, Nat.reduceAdd, and_true] at hO
    simp only [aopsS_cons, aopsS_nil, and_true]
    repeat' apply And.intro
    all_goals
      simp (maxSteps := 4000000) only [↓reduceIte, Nat.reduceLT, Nat.reduceEqDiff, reduceCtorEq, Nat.reduceAdd, Nat.reduceMul, Int.reduceLE, Int.reduceLT, Int.reduceToNat, Nat.reduceLeDiff, Nat.reduceSub, Int.reduceEq, Nat.reduceBEq, evB, tyA, hO, bos_len, bos_take]; (repeat (with_reducible refine And.intro ?_ ?_; exact sdX))
      refine callVC_mk fnok47 hCl rfl ?_
      simp (maxSteps := 4000000) only [↓reduceIte, Nat.reduceLT, Nat.reduceEqDiff, reduceCtorEq, Nat.reduceAdd, Nat.reduceMul, Int.reduceLE, Int.reduceLT, Int.reduceToNat, Nat.reduceLeDiff, Nat.reduceSub, Int.reduceEq, Nat.reduceBEq, evB, tyA, hO, bos_len, bos_take]
      (repeat (with_reducible refine And.intro ?_ ?_; exact sdX))
      refine mkS_le rfl ?_ ?_
      · exact evX
      · exact evX
  (repeat (first | refine awp_seq ?_ | refine awp_block ?_ | ((first | refine awp_skip ?_ | refine awp_exit ?_ | refine awp_reg ttok ?_ | (refine awp_draw ttok ?dr_calm ?_; (case dr_calm => decide +kernel)) | refine awp_condM ?_); simp (maxSteps := 4000000) only [↓reduceIte, Nat.reduceLT, Nat.reduceEqDiff, reduceCtorEq, Nat.reduceAdd, Nat.reduceMul, Int.reduceLE, Int.reduceLT, Int.reduceToNat, Nat.reduceLeDiff, Nat.reduceSub, Int.reduceEq, Nat.reduceBEq, evB, tyA, iis_len, hl]; (repeat (with_reducible refine And.intro ?_ ?_; exact sdX)); (with_reducible first | refine awp_id ?_ | refine id_call ?_ | refine id_and ?_ | refine id_ex ?_ | refine id_all ?_ | refine id_nat ?_ | refine id_le ?_))))
  refine awp_own_nilC 2008 0 3 80002 1 (by decide) (by simp (maxSteps := 4000000) only [↓reduceIte, Nat.reduceLT, Nat.reduceEqDiff, reduceCtorEq, Nat.reduceAdd, Nat.reduceMul, Int.reduceLE, Int.reduceLT, Int.reduceToNat, Nat.reduceLeDiff, Nat.reduceSub, Int.reduceEq, Nat.reduceBEq, evB]; rfl) rfl rfl rfl ?_
  refine awp_unflat 80002 ?_
  have hrl : ∀ r, rowLen N r ≤ 1000 := fun r => by
    rcases Nat.lt_or_ge r N.length with q | q
    · have h1 := rowP_len (N.getD r []) (N.getD r []).length
      have h2 := (h.get (s := r) (by omega)).1
      unfold rowLen rowM; omega
    · unfold rowLen
      rw [List.getD_eq_getElem?_getD, List.getElem?_eq_none q]
      simp [rowM, rowP]
  refine awp_loop (X := Nat) (fun i => mkS 48 [(2, .ptr 1001 0 0), (3, .ptr 2008 0 0), (18, .sl false (iis N)), (19, i64 k), (20, i64 i)]
      ([(1001, { sz := 4, rows := [[i64 0, i64 0, .sl true [], .sl true []]], flat := false }), (102006, { sz := 1, rows := bos F }), (2008, { sz := 4, rows := [[i64 L, i64 st, .own 102006 0 F.length, .own 80002 0 i]], flat := false }), (80002, { sz := 1, rows := ownRowsV i (rowLen N), flat := false })] ++ fam i (rowObj N)))
    (fun i => i ≤ k) (fun i => k - i) 0 (Nat.zero_le _) (mkS_le rfl ?_ ?_) ?_
  · simp (maxSteps := 4000000) only [↓reduceIte, Nat.reduceLT, Nat.reduceEqDiff, reduceCtorEq, Nat.reduceAdd, Nat.reduceMul, Int.reduceLE, Int.reduceLT, Int.reduceToNat, Nat.reduceLeDiff, Nat.reduceSub, Int.reduceEq, Nat.reduceBEq, evB]
    try rfl
  · simp (maxSteps := 4000000) only [↓reduceIte, Nat.reduceLT, Nat.reduceEqDiff, reduceCtorEq, Nat.reduceAdd, Nat.reduceMul, Int.reduceLE, Int.reduceLT, Int.reduceToNat, Nat.reduceLeDiff, Nat.reduceSub, Int.reduceEq, Nat.reduceBEq, evB, fam, List.range_zero, ownRowsV, List.map_nil]
    try rfl
  · intro i hi
    by_cases hlt : i < k
    · have d1 : decide ((i : Int) < (k : Int)) = true := by simpa using hlt
      have hgi := iis_get (l := N) (i := i) (by omega)
      have hrw := (h.get hlt).1
      have hM : rowObj N i = { sz := 2, rows := mvs (rowM (N.getD i [])) } := rfl
      have hMl : rowLen N i = (rowM (N.getD i [])).length := rfl
      have hRM : rowM (N.getD i []) = rowP (N.getD i []) (N.getD i []).length := rfl
      generalize N.getD i [] = r at *
      have h12 : (i = 12006) = False := eq_false (by omega)
      have h12r : ∀ r, r < i → (r = 12006) = False := fun r hr => eq_false (by omega)
      ((repeat (first | refine awp_seq ?_ | refine awp_block ?_)); ((first | refine awp_skip ?_ | refine awp_exit ?_ | refine awp_reg ttok ?_ | (refine awp_draw ttok ?dr_calm ?_; (case dr_calm => decide +kernel)) | refine awp_condM ?_); simp (maxSteps := 4000000) only [↓reduceIte, Nat.reduceLT, Nat.reduceEqDiff, reduceCtorEq, Nat.reduceAdd, Nat.reduceMul, Int.reduceLE, Int.reduceLT, Int.reduceToNat, Nat.reduceLeDiff, Nat.reduceSub, Int.reduceEq, Nat.reduceBEq, evB, tyA, d1, hgi, iis_len, hl]; (repeat (with_reducible refine And.intro ?_ ?_; exact sdX)); (with_reducible first | refine awp_id ?_ | refine id_call ?_ | refine id_and ?_ | refine id_ex ?_ | refine id_all ?_ | refine id_nat ?_ | refine id_le ?_)))
      ((repeat (first | refine awp_seq ?_ | refine awp_block ?_)); ((first | refine awp_skip ?_ | refine awp_exit ?_ | refine awp_reg ttok ?_ | (refine awp_draw ttok ?dr_calm ?_; (case dr_calm => decide +kernel)) | refine awp_condM ?_); simp (maxSteps := 4000000) only [↓reduceIte, Nat.reduceLT, Nat.reduceEqDiff, reduceCtorEq, Nat.reduceAdd, Nat.reduceMul, Int.reduceLE, Int.reduceLT, Int.reduceToNat, Nat.reduceLeDiff, Nat.reduceSub, Int.reduceEq, Nat.reduceBEq, evB, tyA, d1, hgi, iis_len, hl]; (repeat (with_reducible refine And.intro ?_ ?_; exact sdX)); (with_reducible first | refine awp_id ?_ | refine id_call ?_ | refine id_and ?_ | refine id_ex ?_ | refine id_all ?_ | refine id_nat ?_ | refine id_le ?_)))
      ((repeat (first | refine awp_seq ?_ | refine awp_block ?_)); ((first | refine awp_skip ?_ | refine awp_exit ?_ | refine awp_reg ttok ?_ | (refine awp_draw ttok ?dr_calm ?_; (case dr_calm => decide +kernel)) | refine awp_condM ?_); simp (maxSteps := 4000000) only [↓reduceIte, Nat.reduceLT, Nat.reduceEqDiff, reduceCtorEq, Nat.reduceAdd, Nat.reduceMul, Int.reduceLE, Int.reduceLT, Int.reduceToNat, Nat.reduceLeDiff, Nat.reduceSub, Int.reduceEq, Nat.reduceBEq, evB, tyA, d1, hgi, iis_len, hl]; (repeat (with_reducible refine And.intro ?_ ?_; exact sdX)); (with_reducible first | refine awp_id ?_ | refine id_call ?_ | refine id_and ?_ | refine id_ex ?_ | refine id_all ?_ | refine id_nat ?_ | refine id_le ?_)))
      ((repeat (first | refine awp_seq ?_ | refine awp_block ?_)); ((first | refine awp_skip ?_ | refine awp_exit ?_ | refine awp_reg ttok ?_ | (refine awp_draw ttok ?dr_calm ?_; (case dr_calm => decide +kernel)) | refine awp_condM ?_); simp (maxSteps := 4000000) only [↓reduceIte, Nat.reduceLT, Nat.reduceEqDiff, reduceCtorEq, Nat.reduceAdd, Nat.reduceMul, Int.reduceLE, Int.reduceLT, Int.reduceToNat, Nat.reduceLeDiff, Nat.reduceSub, Int.reduceEq, Nat.reduceBEq, evB, tyA, d1, hgi, iis_len, hl]; (repeat (with_reducible refine And.intro ?_ ?_; exact sdX)); (with_reducible first | refine awp_id ?_ | refine id_call ?_ | refine id_and ?_ | refine id_ex ?_ | refine id_all ?_ | refine id_nat ?_ | refine id_le ?_)))
      ((repeat (first | refine awp_seq ?_ | refine awp_block ?_)); ((first | refine awp_skip ?_ | refine awp_exit ?_ | refine awp_reg ttok ?_ | (refine awp_draw ttok ?dr_calm ?_; (case dr_calm => decide +kernel)) | refine awp_condM ?_); simp (maxSteps := 4000000) only [↓reduceIte, Nat.reduceLT, Nat.reduceEqDiff, reduceCtorEq, Nat.reduceAdd, Nat.reduceMul, Int.reduceLE, Int.reduceLT, Int.reduceToNat, Nat.reduceLeDiff, Nat.reduceSub, Int.reduceEq, Nat.reduceBEq, evB, tyA, d1, hgi, iis_len, hl]; (repeat (with_reducible refine And.intro ?_ ?_; exact sdX)); (with_reducible first | refine awp_id ?_ | refine id_call ?_ | refine id_and ?_ | refine id_ex ?_ | refine id_all ?_ | refine id_nat ?_ | refine id_le ?_)))
      refine awp_own_nil 6 (i + 90000) 2 evX (by decide) ?_
      (repeat (first | refine awp_seq ?_ | refine awp_block ?_ | ((first | refine awp_skip ?_ | refine awp_exit ?_ | refine awp_reg ttok ?_ | (refine awp_draw ttok ?dr_calm ?_; (case dr_calm => decide +kernel)) | refine awp_condM ?_); simp (maxSteps := 4000000) only [↓reduceIte, Nat.reduceLT, Nat.reduceEqDiff, reduceCtorEq, Nat.reduceAdd, Nat.reduceMul, Int.reduceLE, Int.reduceLT, Int.reduceToNat, Nat.reduceLeDiff, Nat.reduceSub, Int.reduceEq, Nat.reduceBEq, evB, tyA, St.toOwn, ints_len, hrw]; (repeat (with_reducible refine And.intro ?_ ?_; exact sdX)); (with_reducible first | refine awp_id ?_ | refine id_call ?_ | refine id_and ?_ | refine id_ex ?_ | refine id_all ?_ | refine id_nat ?_ | refine id_le ?_))))
      refine awp_loop (X := Nat) (fun j => mkS 48 [(2, .ptr 1001 0 0), (3, .ptr 2008 0 0), (18, .sl false (iis N)), (19, i64 k), (20, i64 i), (6, .own (i + 90000) 0 (rowP r j).length), (24, .sl false (ints r)), (25, i64 L), (26, i64 j)]
          ([(1001, { sz := 4, rows := [[i64 0, i64 0, .sl true [], .sl true []]], flat := false }), (102006, { sz := 1, rows := bos F }), (2008, { sz := 4, rows := [[i64 L, i64 st, .own 102006 0 F.length, .own 80002 0 i]], flat := false }), (80002, { sz := 1, rows := ownRowsV i (rowLen N), flat := false }), (i + 90000, { sz := 2, rows := mvs (rowP r j) })] ++ fam i (rowObj N)))
        (fun j => j ≤ L) (fun j => L - j) 0 (Nat.zero_le _) (mkS_le rfl ?_ ?_) ?_
      · simp (maxSteps := 4000000) only [↓reduceIte, Nat.reduceLT, Nat.reduceEqDiff, reduceCtorEq, Nat.reduceAdd, Nat.reduceMul, Int.reduceLE, Int.reduceLT, Int.reduceToNat, Nat.reduceLeDiff, Nat.reduceSub, Int.reduceEq, Nat.reduceBEq, evB, rowP, List.length_nil]
        try rfl
      · simp (maxSteps := 4000000) only [↓reduceIte, Nat.reduceLT, Nat.reduceEqDiff, reduceCtorEq, Nat.reduceAdd, Nat.reduceMul, Int.reduceLE, Int.reduceLT, Int.reduceToNat, Nat.reduceLeDiff, Nat.reduceSub, Int.reduceEq, Nat.reduceBEq, evB, knowsH_app, knowsH_fam, rowP, mvs, ownRowsV_killN, h12]
        try refine ⟨rfl, rfl, ?_⟩
        intro r hr
        rw [if_neg (by omega), if_neg (by omega), if_neg (by omega), lk_fam hr]
        rfl
      · intro j hj
        have hpl := rowP_len r j
        have hst : rowP r (j + 1) = rowP r j ++ (if 0 ≤ r.getD j 0 then [((j : Int), r.getD j 0)] else []) := rfl
        by_cases hjlt : j < L
        · have d2 : decide ((j : Int) < (L : Int)) = true := by simpa using hjlt
          have hwj : IntKind.i64.wrap ((j : Int) + 1) = ((j + 1 : Nat) : Int) := i64_in (by omega) (by omega)
          have hgr := ints_get (l := r) (i := j) (by omega)
          generalize r.getD j 0 = x at *
          by_cases hx : 0 ≤ x
          · have e1 : decide (x ≥ 0) = true := by simpa using hx
            rw [if_pos hx] at hst
            generalize rowP r j = p at *
            have hpt : List.take p.length p = p := List.take_of_length_le (Nat.le_refl _)
            have hr2 : ∀ a b : Int, (∀ row ∈ [[D.v (Value.int IntKind.i64 a), D.v (Value.int IntKind.i64 b)]], row.length = 2) = True := fun a b => by simp
            have hsn := mvs_snoc p (j : Int) x
            (repeat (first | refine awp_seq ?_ | refine awp_block ?_ | ((first | refine awp_skip ?_ | refine awp_exit ?_ | refine awp_reg ttok ?_ | (refine awp_draw ttok ?dr_calm ?_; (case dr_calm => decide +kernel)) | refine awp_condM ?_); simp (maxSteps := 4000000) only [↓reduceIte, Nat.reduceLT, Nat.reduceEqDiff, reduceCtorEq, Nat.reduceAdd, Nat.reduceMul, Int.reduceLE, Int.reduceLT, Int.reduceToNat, Nat.reduceLeDiff, Nat.reduceSub, Int.reduceEq, Nat.reduceBEq, evB, tyA, d2, hgr, ints_len, hrw, e1, hwj, mvs_len, mvs_take, hpt, hr2, hsn, h12]; (repeat (with_reducible refine And.intro ?_ ?_; exact sdX)); (with_reducible first | refine awp_id ?_ | refine id_call ?_ | refine id_and ?_ | refine id_ex ?_ | refine id_all ?_ | refine id_nat ?_ | refine id_le ?_))))
            refine ⟨j + 1, by omega, by omega, mkS_le rfl ?_ ?_⟩
            · simp (maxSteps := 4000000) only [↓reduceIte, Nat.reduceLT, Nat.reduceEqDiff, reduceCtorEq, Nat.reduceAdd, Nat.reduceMul, Int.reduceLE, Int.reduceLT, Int.reduceToNat, Nat.reduceLeDiff, Nat.reduceSub, Int.reduceEq, Nat.reduceBEq, evB, hst, List.length_append]
              try rfl
            · simp (maxSteps := 4000000) only [↓reduceIte, Nat.reduceLT, Nat.reduceEqDiff, reduceCtorEq, Nat.reduceAdd, Nat.reduceMul, Int.reduceLE, Int.reduceLT, Int.reduceToNat, Nat.reduceLeDiff, Nat.reduceSub, Int.reduceEq, Nat.reduceBEq, evB, knowsH_app, knowsH_fam, hst, h12, ownRowsV_kill (show decide (11004 < 90000) = true from rfl), ownRowsV_killN]
              try refine ⟨rfl, ?_⟩
              intro r hr
              rw [if_neg (by omega), if_neg (by omega), if_neg (by omega), if_neg (by omega), lk_fam hr]
              rfl
          · have e1 : decide (x ≥ 0) = false := by simpa using hx
            rw [if_neg hx, List.append_nil] at hst
            (repeat (first | refine awp_seq ?_ | refine awp_block ?_ | ((first | refine awp_skip ?_ | refine awp_exit ?_ | refine awp_reg ttok ?_ | (refine awp_draw ttok ?dr_calm ?_; (case dr_calm => decide +kernel)) | refine awp_condM ?_); simp (maxSteps := 4000000) only [↓reduceIte, Nat.reduceLT, Nat.reduceEqDiff, reduceCtorEq, Nat.reduceAdd, Nat.reduceMul, Int.reduceLE, Int.reduceLT, Int.reduceToNat, Nat.reduceLeDiff, Nat.reduceSub, Int.reduceEq, Nat.reduceBEq, evB, tyA, d2, hgr, ints_len, hrw, e1, hwj]; (repeat (with_reducible refine And.intro ?_ ?_; exact sdX)); (with_reducible first | refine awp_id ?_ | refine id_call ?_ | refine id_and ?_ | refine id_ex ?_ | refine id_all ?_ | refine id_nat ?_ | refine id_le ?_))))
            refine ⟨j + 1, by omega, by omega, mkS_le rfl ?_ ?_⟩
            · simp (maxSteps := 4000000) only [↓reduceIte, Nat.reduceLT, Nat.reduceEqDiff, reduceCtorEq, Nat.reduceAdd, Nat.reduceMul, Int.reduceLE, Int.reduceLT, Int.reduceToNat, Nat.reduceLeDiff, Nat.reduceSub, Int.reduceEq, Nat.reduceBEq, evB, hst]
            · simp (maxSteps := 4000000) only [↓reduceIte, Nat.reduceLT, Nat.reduceEqDiff, reduceCtorEq, Nat.reduceAdd, Nat.reduceMul, Int.reduceLE, Int.reduceLT, Int.reduceToNat, Nat.reduceLeDiff, Nat.reduceSub, Int.reduceEq, Nat.reduceBEq, evB, knowsH_app, knowsH_fam, hst, h12]
              intro r hr
              rw [if_neg (by omega), if_neg (by omega), lk_fam hr]
        · have d2 : decide ((j : Int) < (L : Int)) = false := by simpa using hjlt
          obtain rfl : j = L := by omega
          have hjr : rowP r j = rowM r := by rw [hRM, hrw]
          rw [hjr]
          rw [hjr] at hpl
          have hlen : (rowM r).length = rowLen N i := hMl.symm
          have hkb : (ownRowsV i (rowLen N)).map (D.killL 50000003) = ownRowsV i (rowLen N) := ownRowsV_killB (by omega) (by decide)
          have hi9 : (i = 49910003) = False := eq_false (by omega)
          (repeat (first | refine awp_seq ?_ | refine awp_block ?_ | ((first | refine awp_skip ?_ | refine awp_exit ?_ | refine awp_reg ttok ?_ | (refine awp_draw ttok ?dr_calm ?_; (case dr_calm => decide +kernel)) | refine awp_condM ?_); simp (maxSteps := 4000000) only [↓reduceIte, Nat.reduceLT, Nat.reduceEqDiff, reduceCtorEq, Nat.reduceAdd, Nat.reduceMul, Int.reduceLE, Int.reduceLT, Int.reduceToNat, Nat.reduceLeDiff, Nat.reduceSub, Int.reduceEq, Nat.reduceBEq, evB, tyA, d2]; (repeat (with_reducible refine And.intro ?_ ?_; exact sdX)); (with_reducible first | refine awp_id ?_ | refine id_call ?_ | refine id_and ?_ | refine id_ex ?_ | refine id_all ?_ | refine id_nat ?_ | refine id_le ?_))))
          refine awp_region ttok 50000000 ?_
          simp (maxSteps := 4000000) only [↓reduceIte, Nat.reduceLT, Nat.reduceEqDiff, reduceCtorEq, Nat.reduceAdd, Nat.reduceMul, Int.reduceLE, Int.reduceLT, Int.reduceToNat, Nat.reduceLeDiff, Nat.reduceSub, Int.reduceEq, Nat.reduceBEq, evB, tyA, ownRowsV_len, ownRowsV_take, ownRowsV_row, ownRowsV_kill, hkb, hi9, h12]
          refine ⟨⟨by simp, by omega, by omega⟩, ?_⟩
          have hwi : IntKind.i64.wrap ((i : Int) + 1) = ((i + 1 : Nat) : Int) := i64_in (by omega) (by omega)
          (repeat (first | refine awp_seq ?_ | refine awp_block ?_ | ((first | refine awp_skip ?_ | refine awp_exit ?_ | refine awp_reg ttok ?_ | (refine awp_draw ttok ?dr_calm ?_; (case dr_calm => decide +kernel)) | refine awp_condM ?_); simp (maxSteps := 4000000) only [↓reduceIte, Nat.reduceLT, Nat.reduceEqDiff, reduceCtorEq, Nat.reduceAdd, Nat.reduceMul, Int.reduceLE, Int.reduceLT, Int.reduceToNat, Nat.reduceLeDiff, Nat.reduceSub, Int.reduceEq, Nat.reduceBEq, evB, tyA, hwi]; (repeat (with_reducible refine And.intro ?_ ?_; exact sdX)); (with_reducible first | refine awp_id ?_ | refine id_call ?_ | refine id_and ?_ | refine id_ex ?_ | refine id_all ?_ | refine id_nat ?_ | refine id_le ?_))))
          refine ⟨i + 1, by omega, by omega, mkS_le rfl ?_ ?_⟩
          · exact evX
          · simp (maxSteps := 4000000) only [↓reduceIte, Nat.reduceLT, Nat.reduceEqDiff, reduceCtorEq, Nat.reduceAdd, Nat.reduceMul, Int.reduceLE, Int.reduceLT, Int.reduceToNat, Nat.reduceLeDiff, Nat.reduceSub, Int.reduceEq, Nat.reduceBEq, evB, knowsH_app, knowsH_fam, hlen, ownRowsV_app, h12]
            refine ⟨by rw [ownRowsV_kill (by decide)], fun r2 hr2 => ?_⟩
            by_cases e : r2 = i
            · subst e
              rw [if_neg (by omega), if_neg (by omega), if_neg (by omega), if_pos rfl, hM]; rfl
            · rw [if_neg (by omega), if_neg (by omega), if_neg (by omega), if_neg e, lk_fam (by omega)]; rfl
    · have d1 : decide ((i : Int) < (k : Int)) = false := by simpa using hlt
      obtain rfl : i = k := by omega
      (repeat (first | refine awp_seq ?_ | refine awp_block ?_ | ((first | refine awp_skip ?_ | refine awp_exit ?_ | refine awp_reg ttok ?_ | (refine awp_draw ttok ?dr_calm ?_; (case dr_calm => decide +kernel)) | refine awp_condM ?_); simp (maxSteps := 4000000) only [↓reduceIte, Nat.reduceLT, Nat.reduceEqDiff, reduceCtorEq, Nat.reduceAdd, Nat.reduceMul, Int.reduceLE, Int.reduceLT, Int.reduceToNat, Nat.reduceLeDiff, Nat.reduceSub, Int.reduceEq, Nat.reduceBEq, evB, tyA, d1]; (repeat (with_reducible refine And.intro ?_ ?_; exact sdX)); (with_reducible first | refine awp_id ?_ | refine id_call ?_ | refine id_and ?_ | refine id_ex ?_ | refine id_all ?_ | refine id_nat ?_ | refine id_le ?_))))
      refine awp_ret ⟨102006 :: 80002 :: (List.range i).map (· + 90000), .inr rfl, by simp, ?_, ?_, ?_, ⟨_, by simp (maxSteps := 4000000) only [↓reduceIte, Nat.reduceLT, Nat.reduceEqDiff, reduceCtorEq, Nat.reduceAdd, Nat.reduceMul, Int.reduceLE, Int.reduceLT, Int.reduceToNat, Nat.reduceLeDiff, Nat.reduceSub, Int.reduceEq, Nat.reduceBEq, evB, tyA, hF], trivial⟩, ?_⟩
      · rw [List.nodup_cons, List.nodup_cons]
        refine ⟨?_, ?_, ?_⟩
        · simp only [List.mem_cons, List.mem_map, List.mem_range, not_or, not_exists, not_and]
          exact ⟨by decide, fun r hr => by omega⟩
        · simp only [List.mem_map, List.mem_range, not_exists, not_and]
          exact fun r hr => by omega
        · unfold List.Nodup
          rw [List.pairwise_map]
          exact List.Pairwise.imp (fun {a b} (h : a ≠ b) => by omega) (List.nodup_range (n := i))
      · simp only [D.all, D.allL, List.length_cons, List.length_map, List.length_range, Bool.and_true, Bool.true_and, Bool.and_eq_true, decide_eq_true_eq]
        omega
      · intro o ho
        rcases List.mem_cons.1 ho with rfl | ho
        · exact .inl rfl
        · rcases List.mem_cons.1 ho with rfl | ho
          · right
            rw [List.all_eq_true]
            intro row hr
            obtain ⟨r, hr2, rfl⟩ := List.mem_map.1 (show row ∈ (List.range i).map fun r => [D.own (r + 2) 0 (rowLen N r)] from hr)
            have := List.mem_range.1 hr2
            simp only [D.all, D.allL, List.length_cons, List.length_map, List.length_range, Bool.and_true, decide_eq_true_eq]
            omega
          · obtain ⟨r, _, rfl⟩ := List.mem_map.1 ho
            exact .inl rfl
      · intro j o ho
        match j, ho with
        | 0, ho =>
          simp only [List.getElem?_cons_zero, Option.some.injEq] at ho
          subst ho
          simp (maxSteps := 4000000) only [↓reduceIte, Nat.reduceLT, Nat.reduceEqDiff, reduceCtorEq, Nat.reduceAdd, Nat.reduceMul, Int.reduceLE, Int.reduceLT, Int.reduceToNat, Nat.reduceLeDiff, Nat.reduceSub, Int.reduceEq, Nat.reduceBEq, evB, List.getD_cons_zero, AObj.ren]
          try rfl
        | 1, ho =>
          simp only [List.getElem?_cons_succ, List.getElem?_cons_zero, Option.some.injEq] at ho
          subst ho
          have e : (List.map (fun r => [D.own (r + 2) 0 (rowLen N r)]) (List.range i)).map (D.renL fun j => (102006 :: 80002 :: (List.range i).map (· + 90000)).getD j 0) = ownRowsV i (rowLen N) := by
            unfold ownRowsV
            rw [List.map_map]
            apply List.map_congr_left
            intro r hr
            have hr := List.mem_range.1 hr
            simp [D.renL, D.ren, List.getD, hr]
          simp (maxSteps := 4000000) only [↓reduceIte, Nat.reduceLT, Nat.reduceEqDiff, reduceCtorEq, Nat.reduceAdd, Nat.reduceMul, Int.reduceLE, Int.reduceLT, Int.reduceToNat, Nat.reduceLeDiff, Nat.reduceSub, Int.reduceEq, Nat.reduceBEq, evB, List.getD_cons_zero, List.getD_cons_succ, AObj.ren, e]
          try rfl
        | j + 2, ho =>
          simp only [List.getElem?_cons_succ, List.getElem?_map] at ho
          obtain ⟨r, hr, rfl⟩ := Option.map_eq_some_iff.1 ho
          have hj : j < i := by
            have := (List.getElem?_eq_some_iff.1 hr).1
            simpa using this
          have hrj : r = j := by
            rw [List.getElem?_range hj] at hr
            cases hr; rfl
          subst hrj
          have hg : (102006 :: 80002 :: (List.range i).map (· + 90000)).getD (r + 2) 0 = r + 90000 := by simp [List.getD, hj]
          rw [hg]
          have hren : (rowObj N r).ren (fun j => (102006 :: 80002 :: (List.range i).map (· + 90000)).getD j 0) = rowObj N r := by unfold AObj.ren; rw [if_pos (show (rowObj N r).flat = true from rfl)]
          rw [hren]
          simp (maxSteps := 4000000) only [↓reduceIte, Nat.reduceLT, Nat.reduceEqDiff, reduceCtorEq, Nat.reduceAdd, Nat.reduceMul, Int.reduceLE, Int.reduceLT, Int.reduceToNat, Nat.reduceLeDiff, Nat.reduceSub, Int.reduceEq, Nat.reduceBEq, evB, lk_fam hj]
          rw [if_neg (by omega)]
def duo (l : List (Int × Int)) : List (List D) := l.map fun x => [i64 x.1, i64 x.2]
theorem duo_len (l : List (Int × Int)) : (duo l).length = l.length := by simp [duo]
theorem duo_row (l : List (Int × Int)) : (∀ row ∈ duo l, row.length = 2) = True := by
  simp only [duo, List.mem_map, eq_iff_iff, iff_true]
  rintro row ⟨x, _, rfl⟩; rfl
theorem duo_get {l : List (Int × Int)} {i : Nat} (h : i < l.length) : (duo l).getD i [] = [i64 (l.getD i (0, 0)).1, i64 (l.getD i (0, 0)).2] := by
  simp [duo, List.getD, List.getElem?_eq_getElem h]
theorem duo_take (l : List (Int × Int)) (k : Nat) : (duo l).take k = duo (l.take k) := by simp [duo]
theorem duo_app (l m : List (Int × Int)) : duo l ++ duo m = duo (l ++ m) := by simp [duo]
theorem duo_one (a b : Int) : [[i64 a, i64 b]] = duo [(a, b)] := rfl
abbrev Lab := Int × Int × Int
def actOf (part : Int) (x : Lab) (i : Nat) : List (Int × Int) := if part = x.1 then [(1, (i : Int))] else if part = x.2.1 then [(2, (i : Int))] else []
def acts (l : List Lab) (part : Int) : Nat → List (Int × Int)
  | 0 => []
  | n + 1 => acts l part n ++ actOf part (l.getD n (0, 0, 0)) n
theorem acts_len (l : List Lab) (part : Int) : ∀ n, (acts l part n).length ≤ n
  | 0 => by simp [acts]
  | n + 1 => by
    have := acts_len l part n
    have : (actOf part (l.getD n (0, 0, 0)) n).length ≤ 1 := by unfold actOf; split <;> simp; split <;> simp
    simp only [acts, List.length_append]; omega
set_option maxHeartbeats 4000000 in
theorem c_Acts (f : Bool) (l : List Lab) (part : Int) (hl : l.length ≤ 100000) : Contract Try.prog 24 [.sl f (tri l), i64 part] (.own 0 0 (acts l part l.length).length) [{ sz := 2, rows := duo (acts l part l.length) }] := by
  refine contract_of_awp (rs := [4]) Try.func24 rfl Try.ntmps24 (by simp) rfl fun E => ?_
  (repeat (first | refine awp_seq ?_ | refine awp_block ?_ | ((first | refine awp_skip ?_ | refine awp_exit ?_ | refine awp_reg ttok ?_ | (refine awp_draw ttok ?dr_calm ?_; (case dr_calm => decide +kernel)) | refine awp_condM ?_); simp (maxSteps := 4000000) only [↓reduceIte, Nat.reduceLT, Nat.reduceEqDiff, reduceCtorEq, Nat.reduceAdd, Nat.reduceMul, Int.reduceLE, Int.reduceLT, Int.reduceToNat, Nat.reduceLeDiff, Nat.reduceSub, Int.reduceEq, Nat.reduceBEq, evB, tyA, tri_len]; (repeat (with_reducible refine And.intro ?_ ?_; exact sdX)); (with_reducible first | refine awp_id ?_ | refine id_call ?_ | refine id_and ?_ | refine id_ex ?_ | refine id_all ?_ | refine id_nat ?_ | refine id_le ?_))))
  refine awp_own_nil 5 9000 2 evX (by decide) ?_
  refine awp_loop (X := Nat) (fun i => mkS 36 [(1, i64 part), (5, .own 9000 0 (acts l part i).length), (8, .sl f (tri l)), (9, i64 l.length), (10, i64 i)] [(9000, { sz := 2, rows := duo (acts l part i) })]) (fun i => i ≤ l.length) (fun i => l.length - i) 0 (by omega) (mkS_le rfl ?_ ?_) ?_
  · simp (maxSteps := 4000000) only [↓reduceIte, Nat.reduceLT, Nat.reduceEqDiff, reduceCtorEq, Nat.reduceAdd, Nat.reduceMul, Int.reduceLE, Int.reduceLT, Int.reduceToNat, Nat.reduceLeDiff, Nat.reduceSub, Int.reduceEq, Nat.reduceBEq, evB, St.toOwn, tri_len, acts]
    try rfl
  · simp (maxSteps := 4000000) only [↓reduceIte, Nat.reduceLT, Nat.reduceEqDiff, reduceCtorEq, Nat.reduceAdd, Nat.reduceMul, Int.reduceLE, Int.reduceLT, Int.reduceToNat, Nat.reduceLeDiff, Nat.reduceSub, Int.reduceEq, Nat.reduceBEq, evB, St.toOwn, acts]
    try rfl
  · intro i hi
    have hal := acts_len l part i
    by_cases hlt : i < l.length
    · have d1 : decide ((i : Int) < (l.length : Int)) = true := by simpa using hlt
      have gi := tri_get hlt
      have hs : acts l part (i + 1) = acts l part i ++ actOf part (l.getD i (0, 0, 0)) i := rfl
      generalize l.getD i (0, 0, 0) = x at gi hs
      obtain ⟨x1, x2, x3⟩ := x
      simp only at gi
      obtain ⟨i', hi'⟩ : ∃ i', i' = i + 1 := ⟨_, rfl⟩
      have hwi : IntKind.i64.wrap ((i : Int) + 1) = (i' : Int) := by rw [hi']; exact i64_in (by omega) (by omega)
      rw [← hi'] at hs
      by_cases h1 : part = x1
      · have k1 : (part == x1) = true := by rw [h1]; simp
        have ho : actOf part (x1, x2, x3) i = [(1, (i : Int))] := by simp [actOf, h1]
        rw [ho] at hs
        have hone := duo_one 1 i
        (repeat (first | refine awp_seq ?_ | refine awp_block ?_ | ((first | refine awp_skip ?_ | refine awp_exit ?_ | refine awp_reg ttok ?_ | (refine awp_draw ttok ?dr_calm ?_; (case dr_calm => decide +kernel)) | refine awp_condM ?_); simp (maxSteps := 4000000) only [↓reduceIte, Nat.reduceLT, Nat.reduceEqDiff, reduceCtorEq, Nat.reduceAdd, Nat.reduceMul, Int.reduceLE, Int.reduceLT, Int.reduceToNat, Nat.reduceLeDiff, Nat.reduceSub, Int.reduceEq, Nat.reduceBEq, evB, tyA, d1, gi, tri_len, k1, hone, duo_len, duo_row, duo_take, duo_app, List.take_length, ← hs, hwi]; (repeat (with_reducible refine And.intro ?_ ?_; exact sdX)); (with_reducible first | refine awp_id ?_ | refine id_call ?_ | refine id_and ?_ | refine id_ex ?_ | refine id_all ?_ | refine id_nat ?_ | refine id_le ?_))))
        refine ⟨i', by omega, by omega, mkS_le rfl ?_ ?_⟩
        · simp (maxSteps := 4000000) only [↓reduceIte, Nat.reduceLT, Nat.reduceEqDiff, reduceCtorEq, Nat.reduceAdd, Nat.reduceMul, Int.reduceLE, Int.reduceLT, Int.reduceToNat, Nat.reduceLeDiff, Nat.reduceSub, Int.reduceEq, Nat.reduceBEq, evB, hs, List.length_append]
        · exact evX
      · have k1 : (part == x1) = false := by rw [beq_eq_false_iff_ne]; exact h1
        by_cases h2 : part = x2
        · have k2 : (part == x2) = true := by rw [h2]; simp
          have ho : actOf part (x1, x2, x3) i = [(2, (i : Int))] := by unfold actOf; rw [if_neg h1, if_pos h2]
          rw [ho] at hs
          have hone := duo_one 2 i
          (repeat (first | refine awp_seq ?_ | refine awp_block ?_ | ((first | refine awp_skip ?_ | refine awp_exit ?_ | refine awp_reg ttok ?_ | (refine awp_draw ttok ?dr_calm ?_; (case dr_calm => decide +kernel)) | refine awp_condM ?_); simp (maxSteps := 4000000) only [↓reduceIte, Nat.reduceLT, Nat.reduceEqDiff, reduceCtorEq, Nat.reduceAdd, Nat.reduceMul, Int.reduceLE, Int.reduceLT, Int.reduceToNat, Nat.reduceLeDiff, Nat.reduceSub, Int.reduceEq, Nat.reduceBEq, evB, tyA, d1, gi, tri_len, k1, k2, hone, duo_len, duo_row, duo_take, duo_app, List.take_length, ← hs, hwi]; (repeat (with_reducible refine And.intro ?_ ?_; exact sdX)); (with_reducible first | refine awp_id ?_ | refine id_call ?_ | refine id_and ?_ | refine id_ex ?_ | refine id_all ?_ | refine id_nat ?_ | refine id_le ?_))))
          refine ⟨i', by omega, by omega, mkS_le rfl ?_ ?_⟩
          · simp (maxSteps := 4000000) only [↓reduceIte, Nat.reduceLT, Nat.reduceEqDiff, reduceCtorEq, Nat.reduceAdd, Nat.reduceMul, Int.reduceLE, Int.reduceLT, Int.reduceToNat, Nat.reduceLeDiff, Nat.reduceSub, Int.reduceEq, Nat.reduceBEq, evB, hs, List.length_append]
          · exact evX
        · have k2 : (part == x2) = false := by rw [beq_eq_false_iff_ne]; exact h2
          have ho : actOf part (x1, x2, x3) i = [] := by simp [actOf, h1, h2]
          rw [ho, List.append_nil] at hs
          (repeat (first | refine awp_seq ?_ | refine awp_block ?_ | ((first | refine awp_skip ?_ | refine awp_exit ?_ | refine awp_reg ttok ?_ | (refine awp_draw ttok ?dr_calm ?_; (case dr_calm => decide +kernel)) | refine awp_condM ?_); simp (maxSteps := 4000000) only [↓reduceIte, Nat.reduceLT, Nat.reduceEqDiff, reduceCtorEq, Nat.reduceAdd, Nat.reduceMul, Int.reduceLE, Int.reduceLT, Int.reduceToNat, Nat.reduceLeDiff, Nat.reduceSub, Int.reduceEq, Nat.reduceBEq, evB, tyA, d1, gi, tri_len, k1, k2, hwi]; (repeat (with_reducible refine And.intro ?_ ?_; exact sdX)); (with_reducible first | refine awp_id ?_ | refine id_call ?_ | refine id_and ?_ | refine id_ex ?_ | refine id_all ?_ | refine id_nat ?_ | refine id_le ?_))))
          refine ⟨i', by omega, by omega, mkS_le rfl ?_ ?_⟩
          · simp (maxSteps := 4000000) only [↓reduceIte, Nat.reduceLT, Nat.reduceEqDiff, reduceCtorEq, Nat.reduceAdd, Nat.reduceMul, Int.reduceLE, Int.reduceLT, Int.reduceToNat, Nat.reduceLeDiff, Nat.reduceSub, Int.reduceEq, Nat.reduceBEq, evB, hs]
          · simp (maxSteps := 4000000) only [↓reduceIte, Nat.reduceLT, Nat.reduceEqDiff, reduceCtorEq, Nat.reduceAdd, Nat.reduceMul, Int.reduceLE, Int.reduceLT, Int.reduceToNat, Nat.reduceLeDiff, Nat.reduceSub, Int.reduceEq, Nat.reduceBEq, evB, hs]
    · have d1 : decide ((i : Int) < (l.length : Int)) = false := by simpa using hlt
      obtain rfl : i = l.length := by omega
      (repeat (first | refine awp_seq ?_ | refine awp_block ?_ | ((first | refine awp_skip ?_ | refine awp_exit ?_ | refine awp_reg ttok ?_ | (refine awp_draw ttok ?dr_calm ?_; (case dr_calm => decide +kernel)) | refine awp_condM ?_); simp (maxSteps := 4000000) only [↓reduceIte, Nat.reduceLT, Nat.reduceEqDiff, reduceCtorEq, Nat.reduceAdd, Nat.reduceMul, Int.reduceLE, Int.reduceLT, Int.reduceToNat, Nat.reduceLeDiff, Nat.reduceSub, Int.reduceEq, Nat.reduceBEq, evB, tyA, d1]; (repeat (with_reducible refine And.intro ?_ ?_; exact sdX)); (with_reducible first | refine awp_id ?_ | refine id_call ?_ | refine id_and ?_ | refine id_ex ?_ | refine id_all ?_ | refine id_nat ?_ | refine id_le ?_))))
      exact awp_ret (ends_own (g := 9000) (.inr rfl) evX evX rfl)
def idxA : List (Int × Int) → Int → Nat → Int
  | [], _, _ => -1
  | x :: l, w, k => if x.2 = w then (k : Int) else idxA l w (k + 1)
def hasP (l : List Lab) (part w : Int) : Bool := decide (0 ≤ w) && decide (w < l.length) && ((l.getD w.toNat (0, 0, 0)).1 == part || (l.getD w.toNat (0, 0, 0)).2.1 == part)
def wordOf (l : List Lab) (part : Int) (ws : List Int) : List Int := ws.flatMap fun w => if hasP l part w = true then [idxA (acts l part l.length) w 0] else []
def leastR (L : Nat) (M : Mv) (F : List Bool) (st : Nat) : D := ofR L 0 (dFin F (dAll L M (cloL M [(st : Int)]))) (dNx L M (dAll L M (cloL M [(st : Int)])))
set_option maxRecDepth 20000 in
theorem c_Least {L k : Nat} {M : Mv} (h : MOk L k M) (hR : ∀ s, (M.getD s []).length ≤ 1000) (hL : L ≤ 100000) (hk : 1 ≤ k ∧ k ≤ 10) (st : Nat) (hst : st < k) (F : List Bool) (hF : F.length = k) :
    Contract Try.prog 22 [nfaD L st F M] (leastR L M F st) [] := by
  refine contract_of_awpV ttok (rs := [.cell 2 28, .tmp 3]) Try.func22 rfl Try.ntmps22 (by simp) rfl fun E => ?_
  have hD := c_DOf h hR hL hk st hst F hF
  have hA := DA.mk (L := L) (z := cloL M [(st : Int)]) (Q := dAll L M (cloL M [(st : Int)])) h ⟨_, rfl⟩ rfl
  have hlQ := hA.lenQ
  have h2k : 2 ^ k ≤ 1024 := Nat.pow_le_pow_right (show 0 < 2 by decide) hk.2
  unfold leastR
  generalize dAll L M (cloL M [(st : Int)]) = Q at *
  have hO := c_MOfR hA.ok 0 hA.q0.1 (dFin F Q) (by simp [dFin]) hL ⟨hA.q0.1, Nat.le_trans hlQ (Nat.le_trans h2k (by decide))⟩
  generalize dFin F Q = G at *
  generalize dNx L M Q = Y at *
  have c0 : ((0 : Int) != 0) = false := rfl
  clear h2k hlQ
  (repeat (first | refine awp_seq ?_ | refine awp_block ?_ | ((first | refine awp_skip ?_ | refine awp_exit ?_ | refine awp_reg ttok ?_ | (refine awp_draw ttok ?dr_calm ?_; (case dr_calm => decide +kernel)) | refine awp_condM ?_); simp (maxSteps := 4000000) only [↓reduceIte, Nat.reduceLT, Nat.reduceEqDiff, reduceCtorEq, Nat.reduceAdd, Nat.reduceMul, Int.reduceLE, Int.reduceLT, Int.reduceToNat, Nat.reduceLeDiff, Nat.reduceSub, Int.reduceEq, Nat.reduceBEq, evB, tyA, nfaD]; (repeat (with_reducible refine And.intro ?_ ?_; exact sdX)); (with_reducible first | refine awp_id ?_ | refine id_call ?_ | refine id_and ?_ | refine id_ex ?_ | refine id_all ?_ | refine id_nat ?_ | refine id_le ?_))))
  refine callVC_mk fnok33 hD rfl ?_
  simp (maxSteps := 4000000) only [↓reduceIte, Nat.reduceLT, Nat.reduceEqDiff, reduceCtorEq, Nat.reduceAdd, Nat.reduceMul, Int.reduceLE, Int.reduceLT, Int.reduceToNat, Nat.reduceLeDiff, Nat.reduceSub, Int.reduceEq, Nat.reduceBEq, evB, tyA, dfaD]
  (repeat (with_reducible refine And.intro ?_ ?_; exact sdX))
  (repeat (first | refine awp_seq ?_ | refine awp_block ?_ | ((first | refine awp_skip ?_ | refine awp_exit ?_ | refine awp_reg ttok ?_ | (refine awp_draw ttok ?dr_calm ?_; (case dr_calm => decide +kernel)) | refine awp_condM ?_); simp (maxSteps := 4000000) only [↓reduceIte, Nat.reduceLT, Nat.reduceEqDiff, reduceCtorEq, Nat.reduceAdd, Nat.reduceMul, Int.reduceLE, Int.reduceLT, Int.reduceToNat, Nat.reduceLeDiff, Nat.reduceSub, Int.reduceEq, Nat.reduceBEq, evB, tyA, c0]; (repeat (with_reducible refine And.intro ?_ ?_; exact sdX)); (with_reducible first | refine awp_id ?_ | refine id_call ?_ | refine id_and ?_ | refine id_ex ?_ | refine id_all ?_ | refine id_nat ?_ | refine id_le ?_))))
  refine callVC_mk fnok34 hO rfl ?_
  unfold ofR noDfa
  split
  · simp (maxSteps := 4000000) only [↓reduceIte, Nat.reduceLT, Nat.reduceEqDiff, reduceCtorEq, Nat.reduceAdd, Nat.reduceMul, Int.reduceLE, Int.reduceLT, Int.reduceToNat, Nat.reduceLeDiff, Nat.reduceSub, Int.reduceEq, Nat.reduceBEq, evB, tyA, dfaD]
    (repeat (with_reducible refine And.intro ?_ ?_; exact sdX))
    (repeat (first | refine awp_seq ?_ | refine awp_block ?_ | ((first | refine awp_skip ?_ | refine awp_exit ?_ | refine awp_reg ttok ?_ | (refine awp_draw ttok ?dr_calm ?_; (case dr_calm => decide +kernel)) | refine awp_condM ?_); simp (maxSteps := 4000000) only [↓reduceIte, Nat.reduceLT, Nat.reduceEqDiff, reduceCtorEq, Nat.reduceAdd, Nat.reduceMul, Int.reduceLE, Int.reduceLT, Int.reduceToNat, Nat.reduceLeDiff, Nat.reduceSub, Int.reduceEq, Nat.reduceBEq, evB, tyA]; (repeat (with_reducible refine And.intro ?_ ?_; exact sdX)); (with_reducible first | refine awp_id ?_ | refine id_call ?_ | refine id_and ?_ | refine id_ex ?_ | refine id_all ?_ | refine id_nat ?_ | refine id_le ?_))))
    exact awp_ret (endsV [] (.inr rfl) (by simp (maxSteps := 4000000) only [↓reduceIte, Nat.reduceLT, Nat.reduceEqDiff, reduceCtorEq, Nat.reduceAdd, Nat.reduceMul, Int.reduceLE, Int.reduceLT, Int.reduceToNat, Nat.reduceLeDiff, Nat.reduceSub, Int.reduceEq, Nat.reduceBEq, evB, tyA]; rfl) trivial evX)
  · simp (maxSteps := 4000000) only [↓reduceIte, Nat.reduceLT, Nat.reduceEqDiff, reduceCtorEq, Nat.reduceAdd, Nat.reduceMul, Int.reduceLE, Int.reduceLT, Int.reduceToNat, Nat.reduceLeDiff, Nat.reduceSub, Int.reduceEq, Nat.reduceBEq, evB, tyA, dfaD]
    (repeat (with_reducible refine And.intro ?_ ?_; exact sdX))
    (repeat (first | refine awp_seq ?_ | refine awp_block ?_ | ((first | refine awp_skip ?_ | refine awp_exit ?_ | refine awp_reg ttok ?_ | (refine awp_draw ttok ?dr_calm ?_; (case dr_calm => decide +kernel)) | refine awp_condM ?_); simp (maxSteps := 4000000) only [↓reduceIte, Nat.reduceLT, Nat.reduceEqDiff, reduceCtorEq, Nat.reduceAdd, Nat.reduceMul, Int.reduceLE, Int.reduceLT, Int.reduceToNat, Nat.reduceLeDiff, Nat.reduceSub, Int.reduceEq, Nat.reduceBEq, evB, tyA]; (repeat (with_reducible refine And.intro ?_ ?_; exact sdX)); (with_reducible first | refine awp_id ?_ | refine id_call ?_ | refine id_and ?_ | refine id_ex ?_ | refine id_all ?_ | refine id_nat ?_ | refine id_le ?_))))
    exact awp_ret (endsV [] (.inr rfl) (by simp (maxSteps := 4000000) only [↓reduceIte, Nat.reduceLT, Nat.reduceEqDiff, reduceCtorEq, Nat.reduceAdd, Nat.reduceMul, Int.reduceLE, Int.reduceLT, Int.reduceToNat, Nat.reduceLeDiff, Nat.reduceSub, Int.reduceEq, Nat.reduceBEq, evB, tyA]; rfl) trivial evX)
theorem c_HFn (d a w t : Int) : Contract Try.prog 37 [.agg [i64 d, i64 a], .ref [i64 w, i64 t] 0] (bo (a == w)) [] := by
  refine contract_of_awp (rs := [3]) Try.func37 rfl Try.ntmps37 (by simp) rfl fun E => ?_
  (repeat (first | refine awp_seq ?_ | refine awp_block ?_ | ((first | refine awp_skip ?_ | refine awp_exit ?_ | refine awp_reg ttok ?_ | (refine awp_draw ttok ?dr_calm ?_; (case dr_calm => decide +kernel)) | refine awp_condM ?_); simp (maxSteps := 4000000) only [↓reduceIte, Nat.reduceLT, Nat.reduceEqDiff, reduceCtorEq, Nat.reduceAdd, Nat.reduceMul, Int.reduceLE, Int.reduceLT, Int.reduceToNat, Nat.reduceLeDiff, Nat.reduceSub, Int.reduceEq, Nat.reduceBEq, evB, tyA]; (repeat (with_reducible refine And.intro ?_ ?_; exact sdX)); (with_reducible first | refine awp_id ?_ | refine id_call ?_ | refine id_and ?_ | refine id_ex ?_ | refine id_all ?_ | refine id_nat ?_ | refine id_le ?_))))
  exact awp_ret (ends_plain (.inr rfl) rfl evX)
def hm (A : List (Int × Int)) (m : Int × Int) : Int × Int := (idxA A m.1 0, m.2)
def hidM (A : List (Int × Int)) (N : List (List Int)) : Mv := (movD N).map fun r => r.map (hm A)
def hmP (A : List (Int × Int)) (r : List (Int × Int)) (j : Nat) : List (Int × Int) := (r.take j).map (hm A) ++ r.drop j
theorem hmP_zero (A : List (Int × Int)) (r : List (Int × Int)) : hmP A r 0 = r := by simp [hmP]
theorem hmP_all (A : List (Int × Int)) (r : List (Int × Int)) : hmP A r r.length = r.map (hm A) := by simp [hmP]
theorem hmP_len (A : List (Int × Int)) (r : List (Int × Int)) {j : Nat} (h : j ≤ r.length) : (hmP A r j).length = r.length := by simp [hmP]; omega
theorem hmP_get {A : List (Int × Int)} {r : List (Int × Int)} {j : Nat} (h : j < r.length) : (hmP A r j).getD j (0, 0) = r.getD j (0, 0) := by
  have e : ((r.take j).map (hm A)).length = j := by simp; omega
  rw [hmP, List.getD_eq_getElem?_getD, List.getElem?_append_right (by omega), e, Nat.sub_self, List.getElem?_drop, Nat.add_zero]; rfl
theorem hmP_set {A : List (Int × Int)} {r : List (Int × Int)} {j : Nat} (h : j < r.length) : (hmP A r j).set j (hm A (r.getD j (0, 0))) = hmP A r (j + 1) := by
  have e : ((r.take j).map (hm A)).length = j := by simp; omega
  have ed : r.drop j = r.getD j (0, 0) :: r.drop (j + 1) := drop_getD h _
  rw [hmP, ed, List.set_append_right _ _ (by omega), e, Nat.sub_self, List.set_cons_zero, hmP, take_snoc h (0, 0), List.map_append, List.append_assoc]; rfl
set_option maxHeartbeats 4000000 in
theorem c_IndexN (f : Bool) (l : List (Int × Int)) (w t : Int) (hl : l.length ≤ 100000) : Contract Try.prog 36 [.sl f (duo l), .fn (.func 37) 0 [.ref [i64 w, i64 t] 0]] (i64 (idxA l w 0)) [] := by
  refine contract_of_awp (rs := [4]) Try.func36 rfl Try.ntmps36 (by simp) rfl fun E => ?_
  (repeat (first | refine awp_seq ?_ | refine awp_block ?_ | ((first | refine awp_skip ?_ | refine awp_exit ?_ | refine awp_reg ttok ?_ | (refine awp_draw ttok ?dr_calm ?_; (case dr_calm => decide +kernel)) | refine awp_condM ?_); simp (maxSteps := 4000000) only [↓reduceIte, Nat.reduceLT, Nat.reduceEqDiff, reduceCtorEq, Nat.reduceAdd, Nat.reduceMul, Int.reduceLE, Int.reduceLT, Int.reduceToNat, Nat.reduceLeDiff, Nat.reduceSub, Int.reduceEq, Nat.reduceBEq, evB, tyA, duo_len]; (repeat (with_reducible refine And.intro ?_ ?_; exact sdX)); (with_reducible first | refine awp_id ?_ | refine id_call ?_ | refine id_and ?_ | refine id_ex ?_ | refine id_all ?_ | refine id_nat ?_ | refine id_le ?_))))
  refine awp_loop (X := Nat) (fun i => mkS 19 [(0, .sl f (duo l)), (1, .fn (.func 37) 0 [.ref [i64 w, i64 t] 0]), (7, i64 l.length), (8, i64 i)] []) (fun i => i ≤ l.length ∧ idxA (l.drop i) w i = idxA l w 0) (fun i => l.length - i) 0 ⟨by omega, rfl⟩ (mkS_le rfl ?_ trivial) ?_
  · simp (maxSteps := 4000000) only [↓reduceIte, Nat.reduceLT, Nat.reduceEqDiff, reduceCtorEq, Nat.reduceAdd, Nat.reduceMul, Int.reduceLE, Int.reduceLT, Int.reduceToNat, Nat.reduceLeDiff, Nat.reduceSub, Int.reduceEq, Nat.reduceBEq, evB, duo_len]
    try rfl
  · rintro i ⟨hi, hq⟩
    by_cases hlt : i < l.length
    · have d1 : decide ((i : Int) < (l.length : Int)) = true := by simpa using hlt
      have gi := duo_get hlt
      have hdrop : l.drop i = l.getD i (0, 0) :: l.drop (i + 1) := by
        rw [List.drop_eq_getElem_cons hlt]; simp [List.getD, List.getElem?_eq_getElem hlt]
      rw [hdrop, idxA] at hq
      generalize l.getD i (0, 0) = x at gi hq
      obtain ⟨d, a⟩ := x
      simp only at gi hq
      have hwi : IntKind.i64.wrap ((i : Int) + 1) = ((i + 1 : Nat) : Int) := i64_in (by omega) (by omega)
      (repeat (first | refine awp_seq ?_ | refine awp_block ?_ | ((first | refine awp_skip ?_ | refine awp_exit ?_ | refine awp_reg ttok ?_ | (refine awp_draw ttok ?dr_calm ?_; (case dr_calm => decide +kernel)) | refine awp_condM ?_); simp (maxSteps := 4000000) only [↓reduceIte, Nat.reduceLT, Nat.reduceEqDiff, reduceCtorEq, Nat.reduceAdd, Nat.reduceMul, Int.reduceLE, Int.reduceLT, Int.reduceToNat, Nat.reduceLeDiff, Nat.reduceSub, Int.reduceEq, Nat.reduceBEq, evB, tyA, d1, gi, duo_len]; (repeat (with_reducible refine And.intro ?_ ?_; exact sdX)); (with_reducible first | refine awp_id ?_ | refine id_call ?_ | refine id_and ?_ | refine id_ex ?_ | refine id_all ?_ | refine id_nat ?_ | refine id_le ?_))))
      refine callVC_scal fnok37 (c_HFn d a w t) rfl ?_
      by_cases he : a = w
      · have k1 : (a == w) = true := by rw [he]; simp
        rw [if_pos he] at hq
        simp (maxSteps := 4000000) only [↓reduceIte, Nat.reduceLT, Nat.reduceEqDiff, reduceCtorEq, Nat.reduceAdd, Nat.reduceMul, Int.reduceLE, Int.reduceLT, Int.reduceToNat, Nat.reduceLeDiff, Nat.reduceSub, Int.reduceEq, Nat.reduceBEq, evB, tyA, k1]
        (repeat (with_reducible refine And.intro ?_ ?_; exact sdX))
        (repeat (first | refine awp_seq ?_ | refine awp_block ?_ | ((first | refine awp_skip ?_ | refine awp_exit ?_ | refine awp_reg ttok ?_ | (refine awp_draw ttok ?dr_calm ?_; (case dr_calm => decide +kernel)) | refine awp_condM ?_); simp (maxSteps := 4000000) only [↓reduceIte, Nat.reduceLT, Nat.reduceEqDiff, reduceCtorEq, Nat.reduceAdd, Nat.reduceMul, Int.reduceLE, Int.reduceLT, Int.reduceToNat, Nat.reduceLeDiff, Nat.reduceSub, Int.reduceEq, Nat.reduceBEq, evB, tyA, k1]; (repeat (with_reducible refine And.intro ?_ ?_; exact sdX)); (with_reducible first | refine awp_id ?_ | refine id_call ?_ | refine id_and ?_ | refine id_ex ?_ | refine id_all ?_ | refine id_nat ?_ | refine id_le ?_))))
        exact awp_ret (ends_plain (.inr rfl) rfl (by simp (maxSteps := 4000000) only [↓reduceIte, Nat.reduceLT, Nat.reduceEqDiff, reduceCtorEq, Nat.reduceAdd, Nat.reduceMul, Int.reduceLE, Int.reduceLT, Int.reduceToNat, Nat.reduceLeDiff, Nat.reduceSub, Int.reduceEq, Nat.reduceBEq, evB, hq]))
      · have k1 : (a == w) = false := by rw [beq_eq_false_iff_ne]; exact he
        rw [if_neg he] at hq
        simp (maxSteps := 4000000) only [↓reduceIte, Nat.reduceLT, Nat.reduceEqDiff, reduceCtorEq, Nat.reduceAdd, Nat.reduceMul, Int.reduceLE, Int.reduceLT, Int.reduceToNat, Nat.reduceLeDiff, Nat.reduceSub, Int.reduceEq, Nat.reduceBEq, evB, tyA, k1]
        (repeat (with_reducible refine And.intro ?_ ?_; exact sdX))
        (repeat (first | refine awp_seq ?_ | refine awp_block ?_ | ((first | refine awp_skip ?_ | refine awp_exit ?_ | refine awp_reg ttok ?_ | (refine awp_draw ttok ?dr_calm ?_; (case dr_calm => decide +kernel)) | refine awp_condM ?_); simp (maxSteps := 4000000) only [↓reduceIte, Nat.reduceLT, Nat.reduceEqDiff, reduceCtorEq, Nat.reduceAdd, Nat.reduceMul, Int.reduceLE, Int.reduceLT, Int.reduceToNat, Nat.reduceLeDiff, Nat.reduceSub, Int.reduceEq, Nat.reduceBEq, evB, tyA, k1, hwi]; (repeat (with_reducible refine And.intro ?_ ?_; exact sdX)); (with_reducible first | refine awp_id ?_ | refine id_call ?_ | refine id_and ?_ | refine id_ex ?_ | refine id_all ?_ | refine id_nat ?_ | refine id_le ?_))))
        refine ⟨i + 1, ⟨by omega, hq⟩, by omega, mkS_le rfl ?_ trivial⟩
        simp (maxSteps := 4000000) only [↓reduceIte, Nat.reduceLT, Nat.reduceEqDiff, reduceCtorEq, Nat.reduceAdd, Nat.reduceMul, Int.reduceLE, Int.reduceLT, Int.reduceToNat, Nat.reduceLeDiff, Nat.reduceSub, Int.reduceEq, Nat.reduceBEq, evB]
    · have d1 : decide ((i : Int) < (l.length : Int)) = false := by simpa using hlt
      rw [List.drop_of_length_le (by omega)] at hq
      have hm : idxA l w 0 = -1 := by rw [← hq]; rfl
      (repeat (first | refine awp_seq ?_ | refine awp_block ?_ | ((first | refine awp_skip ?_ | refine awp_exit ?_ | refine awp_reg ttok ?_ | (refine awp_draw ttok ?dr_calm ?_; (case dr_calm => decide +kernel)) | refine awp_condM ?_); simp (maxSteps := 4000000) only [↓reduceIte, Nat.reduceLT, Nat.reduceEqDiff, reduceCtorEq, Nat.reduceAdd, Nat.reduceMul, Int.reduceLE, Int.reduceLT, Int.reduceToNat, Nat.reduceLeDiff, Nat.reduceSub, Int.reduceEq, Nat.reduceBEq, evB, tyA, d1]; (repeat (with_reducible refine And.intro ?_ ?_; exact sdX)); (with_reducible first | refine awp_id ?_ | refine id_call ?_ | refine id_and ?_ | refine id_ex ?_ | refine id_all ?_ | refine id_nat ?_ | refine id_le ?_))))
      exact awp_ret (ends_plain (.inr rfl) rfl (by simp (maxSteps := 4000000) only [↓reduceIte, Nat.reduceLT, Nat.reduceEqDiff, reduceCtorEq, Nat.reduceAdd, Nat.reduceMul, Int.reduceLE, Int.reduceLT, Int.reduceToNat, Nat.reduceLeDiff, Nat.reduceSub, Int.reduceEq, Nat.reduceBEq, evB, hm]))
def hG (A : List (Int × Int)) (N : List (List Int)) (i j r : Nat) : AObj := { sz := 2, rows := mvs (if r < i then (rowM (N.getD r [])).map (hm A) else if r = i then hmP A (rowM (N.getD r [])) j else rowM (N.getD r [])) }
theorem hG_start (A : List (Int × Int)) (N : List (List Int)) (r : Nat) : hG A N 0 0 r = rowObj N r := by
  unfold hG rowObj
  rw [if_neg (Nat.not_lt_zero _), hmP_zero]
  split <;> rfl
theorem hG_at (A : List (Int × Int)) (N : List (List Int)) (i j : Nat) : hG A N i j i = { sz := 2, rows := mvs (hmP A (rowM (N.getD i [])) j) } := by
  unfold hG; rw [if_neg (Nat.lt_irrefl _), if_pos rfl]
theorem hG_ne (A : List (Int × Int)) (N : List (List Int)) {i j l r : Nat} (h : r ≠ i) : hG A N i j r = hG A N i l r := by
  unfold hG; rw [if_neg h, if_neg h]
theorem hG_next (A : List (Int × Int)) (N : List (List Int)) (i r : Nat) : hG A N i (rowM (N.getD i [])).length r = hG A N (i + 1) 0 r := by
  unfold hG
  by_cases h1 : r < i
  · rw [if_pos h1, if_pos (by omega)]
  · rw [if_neg h1]
    by_cases h2 : r = i
    · subst h2
      rw [if_pos rfl, if_pos (Nat.lt_succ_self _), hmP_all]
    · rw [if_neg h2, if_neg (by omega)]
      by_cases h3 : r = i + 1
      · rw [if_pos h3, hmP_zero]
      · rw [if_neg h3]
set_option maxRecDepth 20000 in
set_option maxHeartbeats 32000000 in
theorem c_HNfa {L k : Nat} {N : List (List Int)} (h : NOk L k N) (hL : L ≤ 1000) (hk : 1 ≤ k ∧ k ≤ 2000) (st : Nat) (F : List Bool) (hF : F.length = k) (f : Bool) (lb : List Lab) (part : Int) (hlb : lb.length ≤ 1000) :
    Contract Try.prog 23 [dfaD L st F N, .sl f (tri lb), i64 part] (nfaD (acts lb part lb.length).length st F (hidM (acts lb part lb.length) N)) [] := by
  refine contract_of_awpV ttok (rs := [.cell 6 75]) Try.func23 rfl Try.ntmps23 (by simp) rfl fun E => ?_
  have hl := h.len
  have hA := c_Acts f lb part (by omega)
  have hAl := acts_len lb part lb.length
  have hN := c_DNfaO h hL hk st F hF
  generalize acts lb part lb.length = A at *
  (repeat (first | refine awp_seq ?_ | refine awp_block ?_ | ((first | refine awp_skip ?_ | refine awp_exit ?_ | refine awp_reg ttok ?_ | (refine awp_draw ttok ?dr_calm ?_; (case dr_calm => decide +kernel)) | refine awp_condM ?_); simp (maxSteps := 4000000) only [↓reduceIte, Nat.reduceLT, Nat.reduceEqDiff, reduceCtorEq, Nat.reduceAdd, Nat.reduceMul, Int.reduceLE, Int.reduceLT, Int.reduceToNat, Nat.reduceLeDiff, Nat.reduceSub, Int.reduceEq, Nat.reduceBEq, evB, tyA, dfaD]; (repeat (with_reducible refine And.intro ?_ ?_; exact sdX)); (with_reducible first | refine awp_id ?_ | refine id_call ?_ | refine id_and ?_ | refine id_ex ?_ | refine id_all ?_ | refine id_nat ?_ | refine id_le ?_))))
  refine callVC_mk fnok24 hA rfl ?_
  simp (maxSteps := 4000000) only [↓reduceIte, Nat.reduceLT, Nat.reduceEqDiff, reduceCtorEq, Nat.reduceAdd, Nat.reduceMul, Int.reduceLE, Int.reduceLT, Int.reduceToNat, Nat.reduceLeDiff, Nat.reduceSub, Int.reduceEq, Nat.reduceBEq, evB, tyA]
  (repeat (with_reducible refine And.intro ?_ ?_; exact sdX))
  have hAt : List.take A.length A = A := List.take_of_length_le (Nat.le_refl _)
  refine awp_pure 7 (d := .own 102002 0 A.length) evX (by simp (maxSteps := 4000000) only [↓reduceIte, Nat.reduceLT, Nat.reduceEqDiff, reduceCtorEq, Nat.reduceAdd, Nat.reduceMul, Int.reduceLE, Int.reduceLT, Int.reduceToNat, Nat.reduceLeDiff, Nat.reduceSub, Int.reduceEq, Nat.reduceBEq, evB]; rfl) (by simp (maxSteps := 4000000) only [↓reduceIte, Nat.reduceLT, Nat.reduceEqDiff, reduceCtorEq, Nat.reduceAdd, Nat.reduceMul, Int.reduceLE, Int.reduceLT, Int.reduceToNat, Nat.reduceLeDiff, Nat.reduceSub, Int.reduceEq, Nat.reduceBEq, evB, duo_len]) ?_
  refine awp_at 51 [(3, _), (6, _), (7, _)] [(1000, _), (1001, _)] rfl (by (first | simp (maxSteps := 4000000) only [↓reduceIte, Nat.reduceLT, Nat.reduceEqDiff, reduceCtorEq, Nat.reduceAdd, Nat.reduceMul, Int.reduceLE, Int.reduceLT, Int.reduceToNat, Nat.reduceLeDiff, Nat.reduceSub, Int.reduceEq, Nat.reduceBEq, evB, duo_take, hAt] | skip); exact ⟨rfl, rfl, rfl⟩) (by (first | simp (maxSteps := 4000000) only [↓reduceIte, Nat.reduceLT, Nat.reduceEqDiff, reduceCtorEq, Nat.reduceAdd, Nat.reduceMul, Int.reduceLE, Int.reduceLT, Int.reduceToNat, Nat.reduceLeDiff, Nat.reduceSub, Int.reduceEq, Nat.reduceBEq, evB, duo_take, hAt] | skip); exact ⟨rfl, rfl⟩) ?_
  have hok : objsOk ({ sz := 1, rows := bos F } :: { sz := 1, rows := (List.range k).map fun r => [D.own (r + 2) 0 (rowLen N r)], flat := false } :: (List.range k).map (rowObj N)) 0 = true := by
    have h3 : ∀ (l : List Nat) (j : Nat), objsOk (l.map (rowObj N)) j = true := fun l => by
      induction l with
      | nil => exact fun _ => rfl
      | cons x l ih =>
        intro j
        rw [List.map_cons, objsOk, ih]
        rfl
    simp only [objsOk, h3, Bool.and_true, Bool.or_true, Bool.true_or, Bool.not_false, Bool.true_and, Bool.false_or, List.all_eq_true]
    intro row hr
    obtain ⟨r, _, rfl⟩ := List.mem_map.1 hr
    simp [D.all, D.allL]
  (repeat (first | refine awp_seq ?_ | refine awp_block ?_ | ((first | refine awp_skip ?_ | refine awp_exit ?_ | refine awp_reg ttok ?_ | (refine awp_draw ttok ?dr_calm ?_; (case dr_calm => decide +kernel)) | refine awp_condM ?_); simp (maxSteps := 4000000) only [↓reduceIte, Nat.reduceLT, Nat.reduceEqDiff, reduceCtorEq, Nat.reduceAdd, Nat.reduceMul, Int.reduceLE, Int.reduceLT, Int.reduceToNat, Nat.reduceLeDiff, Nat.reduceSub, Int.reduceEq, Nat.reduceBEq, evB, tyA]; (repeat (with_reducible refine And.intro ?_ ?_; exact sdX)); (with_reducible first | refine awp_id ?_ | refine id_call ?_ | refine id_and ?_ | refine id_ex ?_ | refine id_all ?_ | refine id_nat ?_ | refine id_le ?_))))
  refine callVC_mk fnok35 hN hok ?_
  rw [adopt_two (B := 2000) (nid := 103001) (hp := [(1000, { sz := 4, rows := [[i64 L, i64 st, .sl false (bos F), .sl false (iis N)]], flat := false }), (1001, { sz := 4, rows := [[i64 0, i64 0, .sl true [], .sl true []]], flat := false })]) rfl (by decide) (LowS.upd (LowS.lk rfl) rfl) (LowH.lk rfl) k _ (rowLen N) (rowObj N) rfl (fun _ => rfl)]
  simp (maxSteps := 4000000) only [↓reduceIte, Nat.reduceLT, Nat.reduceEqDiff, reduceCtorEq, Nat.reduceAdd, Nat.reduceMul, Int.reduceLE, Int.reduceLT, Int.reduceToNat, Nat.reduceLeDiff, Nat.reduceSub, Int.reduceEq, Nat.reduceBEq, evB, tyA, nfaD]
  (repeat (with_reducible refine And.intro ?_ ?_; exact sdX))
  have hrl : ∀ r, rowLen N r ≤ 1000 := fun r => by
    rcases Nat.lt_or_ge r N.length with q | q
    · have h1 := rowP_len (N.getD r []) (N.getD r []).length
      have h2 := (h.get (s := r) (by omega)).1
      unfold rowLen rowM; omega
    · unfold rowLen
      rw [List.getD_eq_getElem?_getD, List.getElem?_eq_none q]
      simp [rowM, rowP]
  have hkO : ∀ j, j < 103003 ∨ 103003 + k ≤ j → (ownRowsB 103003 k (rowLen N)).map (D.killL j) = ownRowsB 103003 k (rowLen N) := fun j hj => ownRowsB_kill hj
  have hkO1 := hkO 3002 (.inl (by decide))
  have hkO2 := hkO 10003 (.inl (by decide))
  have hlN : lk (famB 103003 k (rowObj N)) 1001 = none := lk_famBN (.inl (by decide))
  (repeat (first | refine awp_seq ?_ | refine awp_block ?_ | ((first | refine awp_skip ?_ | refine awp_exit ?_ | refine awp_reg ttok ?_ | (refine awp_draw ttok ?dr_calm ?_; (case dr_calm => decide +kernel)) | refine awp_condM ?_); simp (maxSteps := 4000000) only [↓reduceIte, Nat.reduceLT, Nat.reduceEqDiff, reduceCtorEq, Nat.reduceAdd, Nat.reduceMul, Int.reduceLE, Int.reduceLT, Int.reduceToNat, Nat.reduceLeDiff, Nat.reduceSub, Int.reduceEq, Nat.reduceBEq, evB, tyA, duo_len, ownRowsB_len, hkO1]; (repeat (with_reducible refine And.intro ?_ ?_; exact sdX)); (with_reducible first | refine awp_id ?_ | refine id_call ?_ | refine id_and ?_ | refine id_ex ?_ | refine id_all ?_ | refine id_nat ?_ | refine id_le ?_))))
  refine awp_loop (X := Nat) (fun i => mkS 51 [(6, .ptr 1001 0 0), (7, .sl false (duo A)), (8, .ptr 3002 0 0), (22, i64 k), (23, i64 i)] ([(1001, { sz := 4, rows := [[i64 0, i64 0, .sl true [], .sl true []]], flat := false }), (103001, { sz := 1, rows := bos F }), (103002, { sz := 1, rows := ownRowsB 103003 k (rowLen N), flat := false }), (3002, { sz := 4, rows := [[i64 A.length, i64 st, .own 103001 0 k, .own 103002 0 k]], flat := false })] ++ famB 103003 k (hG A N i 0)))
    (fun i => i ≤ k) (fun i => k - i) 0 (Nat.zero_le _) (mkS_le rfl ?_ ?_) ?_
  · simp (maxSteps := 4000000) only [↓reduceIte, Nat.reduceLT, Nat.reduceEqDiff, reduceCtorEq, Nat.reduceAdd, Nat.reduceMul, Int.reduceLE, Int.reduceLT, Int.reduceToNat, Nat.reduceLeDiff, Nat.reduceSub, Int.reduceEq, Nat.reduceBEq, evB]
    try rfl
  · simp (maxSteps := 4000000) only [↓reduceIte, Nat.reduceLT, Nat.reduceEqDiff, reduceCtorEq, Nat.reduceAdd, Nat.reduceMul, Int.reduceLE, Int.reduceLT, Int.reduceToNat, Nat.reduceLeDiff, Nat.reduceSub, Int.reduceEq, Nat.reduceBEq, evB, knowsH_app, knowsH_famB, lk_app, lk_famB, hlN, hkO1]
    intro r hr
    rw [lk_famB hr, hG_start]; rfl
  · intro i hi
    by_cases hlt : i < k
    · have d1 : decide ((i : Int) < (k : Int)) = true := by simpa using hlt
      have hwi : IntKind.i64.wrap ((i : Int) + 1) = ((i + 1 : Nat) : Int) := i64_in (by omega) (by omega)
      have hgc := ownRowsB_get (B := 103003) (g := rowLen N) hlt
      have hMl : rowLen N i = (rowM (N.getD i [])).length := rfl
      have hrli := hrl i
      have hnx := hG_next A N i
      have hat := fun j => hG_at A N i j
      generalize rowM (N.getD i []) = r at *
      rw [hMl] at hgc hrli
      (repeat (first | refine awp_seq ?_ | refine awp_block ?_ | ((first | refine awp_skip ?_ | refine awp_exit ?_ | refine awp_reg ttok ?_ | (refine awp_draw ttok ?dr_calm ?_; (case dr_calm => decide +kernel)) | refine awp_condM ?_); simp (maxSteps := 4000000) only [↓reduceIte, Nat.reduceLT, Nat.reduceEqDiff, reduceCtorEq, Nat.reduceAdd, Nat.reduceMul, Int.reduceLE, Int.reduceLT, Int.reduceToNat, Nat.reduceLeDiff, Nat.reduceSub, Int.reduceEq, Nat.reduceBEq, evB, tyA, d1, ownRowsB_len, hgc]; (repeat (with_reducible refine And.intro ?_ ?_; exact sdX)); (with_reducible first | refine awp_id ?_ | refine id_call ?_ | refine id_and ?_ | refine id_ex ?_ | refine id_all ?_ | refine id_nat ?_ | refine id_le ?_))))
      refine awp_loop (X := Nat) (fun j => mkS 51 [(6, .ptr 1001 0 0), (7, .sl false (duo A)), (8, .ptr 3002 0 0), (9, i64 i), (22, i64 k), (23, i64 i), (30, .own (i + 103003) 0 r.length), (31, i64 r.length), (32, i64 j)] ([(1001, { sz := 4, rows := [[i64 0, i64 0, .sl true [], .sl true []]], flat := false }), (103001, { sz := 1, rows := bos F }), (103002, { sz := 1, rows := ownRowsB 103003 k (rowLen N), flat := false }), (3002, { sz := 4, rows := [[i64 A.length, i64 st, .own 103001 0 k, .own 103002 0 k]], flat := false })] ++ famB 103003 k (hG A N i j)))
        (fun j => j ≤ r.length) (fun j => r.length - j) 0 (Nat.zero_le _) (mkS_le rfl ?_ ?_) ?_
      · simp (maxSteps := 4000000) only [↓reduceIte, Nat.reduceLT, Nat.reduceEqDiff, reduceCtorEq, Nat.reduceAdd, Nat.reduceMul, Int.reduceLE, Int.reduceLT, Int.reduceToNat, Nat.reduceLeDiff, Nat.reduceSub, Int.reduceEq, Nat.reduceBEq, evB]
        try rfl
      · simp (maxSteps := 4000000) only [↓reduceIte, Nat.reduceLT, Nat.reduceEqDiff, reduceCtorEq, Nat.reduceAdd, Nat.reduceMul, Int.reduceLE, Int.reduceLT, Int.reduceToNat, Nat.reduceLeDiff, Nat.reduceSub, Int.reduceEq, Nat.reduceBEq, evB, knowsH_app, knowsH_famB]
        intro q hq
        rw [lk_famB hq]
      · intro j hj
        by_cases hjlt : j < r.length
        · have d2 : decide ((j : Int) < (r.length : Int)) = true := by simpa using hjlt
          have hwj : IntKind.i64.wrap ((j : Int) + 1) = ((j + 1 : Nat) : Int) := i64_in (by omega) (by omega)
          have hpl := hmP_len A r hj
          have hgr := mvs_get (l := hmP A r j) (i := j) (by omega)
          rw [hmP_get hjlt] at hgr
          have hs := hmP_set (A := A) hjlt
          have hatj := hat j
          have hatj1 := hat (j + 1)
          have hhm : hm A (r.getD j (0, 0)) = (idxA A (r.getD j (0, 0)).1 0, (r.getD j (0, 0)).2) := rfl
          rw [hhm] at hs
          generalize r.getD j (0, 0) = m at *
          obtain ⟨a, t⟩ := m
          simp only at hgr hs
          have hI := c_IndexN false A a t (by omega)
          (repeat (first | refine awp_seq ?_ | refine awp_block ?_ | ((first | refine awp_skip ?_ | refine awp_exit ?_ | refine awp_reg ttok ?_ | (refine awp_draw ttok ?dr_calm ?_; (case dr_calm => decide +kernel)) | refine awp_condM ?_); simp (maxSteps := 4000000) only [↓reduceIte, Nat.reduceLT, Nat.reduceEqDiff, reduceCtorEq, Nat.reduceAdd, Nat.reduceMul, Int.reduceLE, Int.reduceLT, Int.reduceToNat, Nat.reduceLeDiff, Nat.reduceSub, Int.reduceEq, Nat.reduceBEq, evB, tyA, d2, lk_famB hlt, hatj, hpl, mvs_len, hgr]; (repeat (with_reducible refine And.intro ?_ ?_; exact sdX)); (with_reducible first | refine awp_id ?_ | refine id_call ?_ | refine id_and ?_ | refine id_ex ?_ | refine id_all ?_ | refine id_nat ?_ | refine id_le ?_))))
          have hse : (mvs (hmP A r j)).set j [D.v (Value.int IntKind.i64 (idxA A a 0)), D.v (Value.int IntKind.i64 t)] = mvs (hmP A r (j + 1)) := by rw [← hs]; simp [mvs]
          refine awp_drawG ttok ((0, none) :: (1, none) :: (2, none) :: (3, none) :: (4, none) :: (5, none) :: (6, none) :: (7, none) :: (8, some [0, 1, 2, 3, 4, 5]) :: (9, none) :: (10, none) :: (11, some []) :: []) ([]) ([]) (by decide +kernel) fun O hO => ?_; simp only [OpsAre, Nat.reduceAdd, and_true, List.toList_toArray, List.append_eq, List.cons_append, List.nil_append] at hO; simp (maxSteps := 4000000) only [↓reduceIte, Nat.reduceLT, Nat.reduceEqDiff, reduceCtorEq, Nat.reduceAdd, Nat.reduceMul, Int.reduceLE, Int.reduceLT, Int.reduceToNat, Nat.reduceLeDiff, Nat.reduceSub, Int.reduceEq, Nat.reduceBEq, evB, tyA, hO, ownRowsB_len, hkO2, hgc, lk_famB hlt, hatj, hpl, mvs_len, duo_len, hgr]; (repeat (with_reducible refine And.intro ?_ ?_; exact sdX))
          refine callVC_scal fnok36 hI rfl ?_
          simp (maxSteps := 4000000) only [↓reduceIte, Nat.reduceLT, Nat.reduceEqDiff, reduceCtorEq, Nat.reduceAdd, Nat.reduceMul, Int.reduceLE, Int.reduceLT, Int.reduceToNat, Nat.reduceLeDiff, Nat.reduceSub, Int.reduceEq, Nat.reduceBEq, evB, tyA, hO, ownRowsB_len, hkO2, hgc, lk_famB hlt, hatj, hpl, mvs_len, duo_len, hgr, hse]
          (repeat (with_reducible refine And.intro ?_ ?_; exact sdX))
          (repeat (first | refine awp_seq ?_ | refine awp_block ?_ | ((first | refine awp_skip ?_ | refine awp_exit ?_ | refine awp_reg ttok ?_ | (refine awp_draw ttok ?dr_calm ?_; (case dr_calm => decide +kernel)) | refine awp_condM ?_); simp (maxSteps := 4000000) only [↓reduceIte, Nat.reduceLT, Nat.reduceEqDiff, reduceCtorEq, Nat.reduceAdd, Nat.reduceMul, Int.reduceLE, Int.reduceLT, Int.reduceToNat, Nat.reduceLeDiff, Nat.reduceSub, Int.reduceEq, Nat.reduceBEq, evB, tyA, hwj]; (repeat (with_reducible refine And.intro ?_ ?_; exact sdX)); (with_reducible first | refine awp_id ?_ | refine id_call ?_ | refine id_and ?_ | refine id_ex ?_ | refine id_all ?_ | refine id_nat ?_ | refine id_le ?_))))
          refine ⟨j + 1, by omega, by omega, mkS_le rfl ?_ ?_⟩
          · exact evX
          · simp (maxSteps := 4000000) only [↓reduceIte, Nat.reduceLT, Nat.reduceEqDiff, reduceCtorEq, Nat.reduceAdd, Nat.reduceMul, Int.reduceLE, Int.reduceLT, Int.reduceToNat, Nat.reduceLeDiff, Nat.reduceSub, Int.reduceEq, Nat.reduceBEq, evB, knowsH_app, knowsH_famB, hkO2]
            intro q hq
            by_cases e : q = i
            · rw [if_pos e, e, hatj1]
            · rw [if_neg e, lk_famB hq, hG_ne A N e (l := j + 1)]; rfl
        · have d2 : decide ((j : Int) < (r.length : Int)) = false := by simpa using hjlt
          obtain rfl : j = r.length := by omega
          (repeat (first | refine awp_seq ?_ | refine awp_block ?_ | ((first | refine awp_skip ?_ | refine awp_exit ?_ | refine awp_reg ttok ?_ | (refine awp_draw ttok ?dr_calm ?_; (case dr_calm => decide +kernel)) | refine awp_condM ?_); simp (maxSteps := 4000000) only [↓reduceIte, Nat.reduceLT, Nat.reduceEqDiff, reduceCtorEq, Nat.reduceAdd, Nat.reduceMul, Int.reduceLE, Int.reduceLT, Int.reduceToNat, Nat.reduceLeDiff, Nat.reduceSub, Int.reduceEq, Nat.reduceBEq, evB, tyA, d2, hwi]; (repeat (with_reducible refine And.intro ?_ ?_; exact sdX)); (with_reducible first | refine awp_id ?_ | refine id_call ?_ | refine id_and ?_ | refine id_ex ?_ | refine id_all ?_ | refine id_nat ?_ | refine id_le ?_))))
          refine ⟨i + 1, by omega, by omega, mkS_le rfl ?_ ?_⟩
          · exact evX
          · simp (maxSteps := 4000000) only [↓reduceIte, Nat.reduceLT, Nat.reduceEqDiff, reduceCtorEq, Nat.reduceAdd, Nat.reduceMul, Int.reduceLE, Int.reduceLT, Int.reduceToNat, Nat.reduceLeDiff, Nat.reduceSub, Int.reduceEq, Nat.reduceBEq, evB, knowsH_app, knowsH_famB]
            intro q hq
            rw [lk_famB hq, hnx]
    · have d1 : decide ((i : Int) < (k : Int)) = false := by simpa using hlt
      obtain rfl : i = k := by omega
      obtain ⟨pp, hpe, hpp⟩ := purLL_ownB (B := 103003) (h := lk ([(1001, { sz := 4, rows := [[i64 0, i64 0, .sl true [], .sl true []]], flat := false }), (103001, { sz := 1, rows := bos F }), (103002, { sz := 1, rows := ownRowsB 103003 i (rowLen N), flat := false }), (3002, { sz := 4, rows := [[i64 A.length, i64 st, .own 103001 0 i, .own 103002 0 i]], flat := false })] ++ famB 103003 i (hG A N i 0))) (len := rowLen N) (g := hG A N i 0) (List.range i) (fun r hr => ⟨by
          have hr' := List.mem_range.1 hr
          rw [lk_app, lk_none (by simp)]
          exact lk_famB hr', rfl, by
          unfold hG
          simp only
          rw [mvs_len, if_pos (List.mem_range.1 hr), List.length_map]; rfl⟩)
      have hrows : ((List.range i).map fun r => [D.sl false (hG A N i 0 r).rows]) = mmv (hidM A N) := by
        apply List.ext_getElem
        · simp [mmv, hidM, movD, hl]
        · intro r h1 h2
          have hr : r < N.length := by simpa [mmv, hidM, movD] using h2
          have hri : r < i := by omega
          simp [mmv, hidM, movD, hG, List.getD, hr, hri]
      refine awp_pureO 103002 (o := { sz := 1, rows := ownRowsB 103003 i (rowLen N), flat := false }) evX rfl hpe hpp (by simp) ?_
      simp only [hrows]
      have hcon : ∀ j, j < 103003 → ((List.range i).map (· + 103003)).contains j = false := fun j h => by
        simp only [List.contains_eq_mem, List.mem_map, List.mem_range, decide_eq_false_iff_not]
        rintro ⟨r, h1, q⟩; omega
      have c1 := hcon 1001 (by decide)
      have c2 := hcon 3002 (by decide)
      have c3 := hcon 103001 (by decide)
      have c4 := hcon 103002 (by decide)
      have hil : (hidM A N).length = i := by simp [hidM, movD, hl]
      have hit : List.take i (hidM A N) = hidM A N := List.take_of_length_le (by omega)
      have hft : List.take i F = F := List.take_of_length_le (by omega)
      refine awp_at 51 [(6, _), (7, _), (8, _), (22, _), (23, _)] [(1001, _), (3002, _), (103001, _), (103002, _)] rfl (by (first | simp (maxSteps := 4000000) only [↓reduceIte, Nat.reduceLT, Nat.reduceEqDiff, reduceCtorEq, Nat.reduceAdd, Nat.reduceMul, Int.reduceLE, Int.reduceLT, Int.reduceToNat, Nat.reduceLeDiff, Nat.reduceSub, Int.reduceEq, Nat.reduceBEq, evB, c1, c2, c3, c4] | skip); exact ⟨rfl, rfl, rfl, rfl, rfl⟩) (by (first | simp (maxSteps := 4000000) only [↓reduceIte, Nat.reduceLT, Nat.reduceEqDiff, reduceCtorEq, Nat.reduceAdd, Nat.reduceMul, Int.reduceLE, Int.reduceLT, Int.reduceToNat, Nat.reduceLeDiff, Nat.reduceSub, Int.reduceEq, Nat.reduceBEq, evB, c1, c2, c3, c4] | skip); exact ⟨rfl, rfl, rfl, rfl⟩) ?_
      refine awp_pureO 3002 (by simp (maxSteps := 4000000) only [↓reduceIte, Nat.reduceLT, Nat.reduceEqDiff, reduceCtorEq, Nat.reduceAdd, Nat.reduceMul, Int.reduceLE, Int.reduceLT, Int.reduceToNat, Nat.reduceLeDiff, Nat.reduceSub, Int.reduceEq, Nat.reduceBEq, evB]; rfl) rfl (by simp (maxSteps := 4000000) only [↓reduceIte, Nat.reduceLT, Nat.reduceEqDiff, reduceCtorEq, Nat.reduceAdd, Nat.reduceMul, Int.reduceLE, Int.reduceLT, Int.reduceToNat, Nat.reduceLeDiff, Nat.reduceSub, Int.reduceEq, Nat.reduceBEq, evB, bos_len, bos_take, mmv_len, mmv_take, hft, hil, hit, hF]; rfl) (by simp (maxSteps := 4000000) only [↓reduceIte, Nat.reduceLT, Nat.reduceEqDiff, reduceCtorEq, Nat.reduceAdd, Nat.reduceMul, Int.reduceLE, Int.reduceLT, Int.reduceToNat, Nat.reduceLeDiff, Nat.reduceSub, Int.reduceEq, Nat.reduceBEq, evB, bos_len, mmv_len, hil, hF]) (by decide) ?_
      refine awp_at 51 [(6, _), (7, _), (8, _), (22, _), (23, _)] [(1001, _), (3002, _)] rfl (by (first | simp (maxSteps := 4000000) only [↓reduceIte, Nat.reduceLT, Nat.reduceEqDiff, reduceCtorEq, Nat.reduceAdd, Nat.reduceMul, Int.reduceLE, Int.reduceLT, Int.reduceToNat, Nat.reduceLeDiff, Nat.reduceSub, Int.reduceEq, Nat.reduceBEq, evB] | skip); exact ⟨rfl, rfl, rfl, rfl, rfl⟩) (by (first | simp (maxSteps := 4000000) only [↓reduceIte, Nat.reduceLT, Nat.reduceEqDiff, reduceCtorEq, Nat.reduceAdd, Nat.reduceMul, Int.reduceLE, Int.reduceLT, Int.reduceToNat, Nat.reduceLeDiff, Nat.reduceSub, Int.reduceEq, Nat.reduceBEq, evB] | skip); exact ⟨rfl, rfl⟩) ?_
      (repeat (first | refine awp_seq ?_ | refine awp_block ?_ | ((first | refine awp_skip ?_ | refine awp_exit ?_ | refine awp_reg ttok ?_ | (refine awp_draw ttok ?dr_calm ?_; (case dr_calm => decide +kernel)) | refine awp_condM ?_); simp (maxSteps := 4000000) only [↓reduceIte, Nat.reduceLT, Nat.reduceEqDiff, reduceCtorEq, Nat.reduceAdd, Nat.reduceMul, Int.reduceLE, Int.reduceLT, Int.reduceToNat, Nat.reduceLeDiff, Nat.reduceSub, Int.reduceEq, Nat.reduceBEq, evB, tyA, d1]; (repeat (with_reducible refine And.intro ?_ ?_; exact sdX)); (with_reducible first | refine awp_id ?_ | refine id_call ?_ | refine id_and ?_ | refine id_ex ?_ | refine id_all ?_ | refine id_nat ?_ | refine id_le ?_))))
      exact awp_ret (endsV [] (.inr rfl) (by simp (maxSteps := 4000000) only [↓reduceIte, Nat.reduceLT, Nat.reduceEqDiff, reduceCtorEq, Nat.reduceAdd, Nat.reduceMul, Int.reduceLE, Int.reduceLT, Int.reduceToNat, Nat.reduceLeDiff, Nat.reduceSub, Int.reduceEq, Nat.reduceBEq, evB, tyA, nfaD]; rfl) trivial evX)
end Go.Proofs.Ytkpplakjdcpoaaa
