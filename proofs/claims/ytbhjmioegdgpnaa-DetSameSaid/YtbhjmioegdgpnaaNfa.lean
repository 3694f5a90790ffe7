/-
  States of which interactions lead to some, by any moves: plain functions; families of rows of unlike lengths.
-/
import Derived.Test.YtbhjmioegdgpnaaDfa
import Derived.Test.YtbhjmioegdgpnaaFam
namespace Go.Proofs.Ytbhjmioegdgpnaa
open Go.Ab
set_option linter.unusedSimpArgs false
set_option linter.unusedVariables false

/-- Moves as rows. -/
def mvs (l : List (Int × Int)) : List (List D) := l.map fun x => [i64 x.1, i64 x.2]
theorem mvs_len (l : List (Int × Int)) : (mvs l).length = l.length := by simp [mvs]
theorem mvs_row (l : List (Int × Int)) : (∀ row ∈ mvs l, row.length = 2) = True := by
  simp only [mvs, List.mem_map, eq_iff_iff, iff_true]
  rintro row ⟨x, _, rfl⟩; rfl
theorem mvs_get {l : List (Int × Int)} {i : Nat} (h : i < l.length) : (mvs l).getD i [] = [i64 (l.getD i (0, 0)).1, i64 (l.getD i (0, 0)).2] := by
  simp [mvs, List.getD, List.getElem?_eq_getElem h]
theorem mvs_take (l : List (Int × Int)) (k : Nat) : (mvs l).take k = mvs (l.take k) := by simp [mvs]
theorem mvs_snoc (l : List (Int × Int)) (a b : Int) : mvs l ++ [[i64 a, i64 b]] = mvs (l ++ [(a, b)]) := by simp [mvs]
def mmv (M : List (List (Int × Int))) : List (List D) := M.map fun r => [.sl false (mvs r)]
theorem mmv_len (M : List (List (Int × Int))) : (mmv M).length = M.length := by simp [mmv]
theorem mmv_get {M : List (List (Int × Int))} {i : Nat} (h : i < M.length) : (mmv M).getD i [] = [.sl false (mvs (M.getD i []))] := by
  simp [mmv, List.getD, List.getElem?_eq_getElem h]
theorem mmv_take (M : List (List (Int × Int))) (k : Nat) : (mmv M).take k = mmv (M.take k) := by simp [mmv]
def nfaD (L s : Nat) (F : List Bool) (M : List (List (Int × Int))) : D := .agg [i64 L, i64 s, .sl false (bos F), .sl false (mmv M)]

/-- Its parts, by picks. -/
def labN (z : Int) : Nat := lowB 3 z
theorem labN_le (z : Int) : labN z ≤ 3 := lowB_le 3 z (by decide)
def mvL (L : Nat) (x : Int × Int × Int) : Int := ((lowB 255 x.2.2 % (L + 1) : Nat) : Int) - 1
def addM (M : List (List (Int × Int))) (f : Nat) (a t : Int) : List (List (Int × Int)) := M.set f (M.getD f [] ++ [(a, t)])
def mvN (L k : Nat) (l : List (Int × Int × Int)) : Nat → List (List (Int × Int))
  | 0 => List.replicate k []
  | i + 1 => addM (mvN L k l i) (mvF k (l.getD i (0, 0, 0))) (mvL L (l.getD i (0, 0, 0))) (mvT k (l.getD i (0, 0, 0)))
def movN (L k : Nat) (l : List (Int × Int × Int)) : List (List (Int × Int)) := mvN L k l (min l.length 20)

theorem addM_get {M : List (List (Int × Int))} {f : Nat} (h : f < M.length) (a t : Int) (r : Nat) : (addM M f a t).getD r [] = if r = f then M.getD f [] ++ [(a, t)] else M.getD r [] := by
  unfold addM
  by_cases e : r = f
  · subst e
    rw [if_pos rfl, List.getD_eq_getElem?_getD, List.getElem?_set_self h]
    rfl
  · rw [if_neg e, List.getD_eq_getElem?_getD, List.getElem?_set_ne (Ne.symm e)]
    rfl
/-- Moves that may be. -/
structure MOk (L k : Nat) (M : List (List (Int × Int))) : Prop where
  len : M.length = k
  row : ∀ r ∈ M, ∀ x ∈ r, -1 ≤ x.1 ∧ x.1 < (L : Int) ∧ 0 ≤ x.2 ∧ x.2 < (k : Int)
theorem MOk.get {L k : Nat} {M : List (List (Int × Int))} (h : MOk L k M) (s : Nat) : ∀ x ∈ M.getD s [], -1 ≤ x.1 ∧ x.1 < (L : Int) ∧ 0 ≤ x.2 ∧ x.2 < (k : Int) := by
  intro x hx
  rcases Nat.lt_or_ge s M.length with q | q
  · have e : M.getD s [] = M[s] := by simp [List.getD, List.getElem?_eq_getElem q]
    rw [e] at hx
    exact h.row _ (List.getElem_mem _) x hx
  · simp [List.getD, List.getElem?_eq_none q] at hx
theorem mvN_ok {L k : Nat} (hk : 1 ≤ k) (l : List (Int × Int × Int)) : ∀ i, MOk L k (mvN L k l i)
  | 0 => ⟨by simp [mvN], fun r hr => by rw [List.eq_of_mem_replicate hr]; simp⟩
  | i + 1 => by
    have ih := mvN_ok (L := L) hk l i
    refine ⟨by simp [mvN, addM, ih.len], fun r hr x hx => ?_⟩
    rcases List.mem_or_eq_of_mem_set hr with q | q
    · exact ih.row r q x hx
    · rw [q] at hx
      rcases List.mem_append.1 hx with q2 | q2
      · exact ih.get _ x q2
      · rw [List.mem_singleton.1 q2]
        have h1 : mvT k (l.getD i (0, 0, 0)) < k := Nat.mod_lt _ hk
        have h2 : lowB 255 (l.getD i (0, 0, 0)).2.2 % (L + 1) < L + 1 := Nat.mod_lt _ (by omega)
        simp only [mvL]
        omega
theorem movN_ok {L k : Nat} (hk : 1 ≤ k) (l : List (Int × Int × Int)) : MOk L k (movN L k l) := mvN_ok hk l _
theorem mvN_rl {L k : Nat} (l : List (Int × Int × Int)) : ∀ i s, ((mvN L k l i).getD s []).length ≤ i
  | 0, s => by
    rcases Nat.lt_or_ge s k with h | h
    · simp [mvN, List.getD, h]
    · simp [mvN, List.getD, List.getElem?_eq_none (show (List.replicate k ([] : List (Int × Int))).length ≤ s by simpa using h)]
  | i + 1, s => by
    have ih := mvN_rl (L := L) (k := k) l i
    simp only [mvN, addM]
    generalize mvF k (l.getD i (0, 0, 0)) = f
    by_cases hs : s = f
    · subst hs
      rcases Nat.lt_or_ge s (mvN L k l i).length with h | h
      · have : ((mvN L k l i).set s ((mvN L k l i).getD s [] ++ [(mvL L (l.getD i (0, 0, 0)), (mvT k (l.getD i (0, 0, 0)) : Int))])).getD s [] = (mvN L k l i).getD s [] ++ [(mvL L (l.getD i (0, 0, 0)), (mvT k (l.getD i (0, 0, 0)) : Int))] := by
          simp [List.getD, h]
        rw [this, List.length_append]
        exact Nat.succ_le_succ (ih s)
      · rw [List.set_eq_of_length_le h]
        exact Nat.le_succ_of_le (ih s)
    · have : ((mvN L k l i).set f ((mvN L k l i).getD f [] ++ [(mvL L (l.getD i (0, 0, 0)), (mvT k (l.getD i (0, 0, 0)) : Int))])).getD s [] = (mvN L k l i).getD s [] := by
        simp [List.getD, List.getElem?_set_ne (Ne.symm hs)]
      rw [this]
      have := ih s
      omega

/-- Rows' own slices, of unlike lengths. -/
def ownRowsV (n : Nat) (g : Nat → Nat) : List (List D) := (List.range n).map fun r => [D.own (r + 90000) 0 (g r)]
theorem ownRowsV_len (n : Nat) (g : Nat → Nat) : (ownRowsV n g).length = n := by simp [ownRowsV]
theorem ownRowsV_get {n f : Nat} {g : Nat → Nat} (h : f < n) : (ownRowsV n g).getD f [] = [D.own (f + 90000) 0 (g f)] := by simp [ownRowsV, List.getD, h]
theorem ownRowsV_kill {n k : Nat} {g : Nat → Nat} (h : decide (k < 90000) = true) : (ownRowsV n g).map (D.killL k) = ownRowsV n g := by
  have := of_decide_eq_true h
  simp only [ownRowsV, List.map_map]
  apply List.map_congr_left
  intro r hr
  simp only [Function.comp, D.killL, D.kill]
  rw [if_neg (by omega)]
theorem ownRowsV_killF {n f : Nat} {g : Nat → Nat} (h : f < n) : ((ownRowsV n g).map (D.killL (f + 90000))).getD f [] = [D.junk] := by
  simp [ownRowsV, List.getD, h, D.killL, D.kill]
theorem ownRowsV_setK {n f : Nat} {g : Nat → Nat} (m : Nat) (h : f < n) : ((ownRowsV n g).map (D.killL (f + 90000))).set f [D.own (f + 90000) 0 m] = ownRowsV n fun r => if r = f then m else g r := by
  apply List.ext_getElem
  · simp [ownRowsV]
  · intro i h1 h2
    simp only [ownRowsV, List.getElem_set, List.getElem_map, List.getElem_range]
    by_cases e : f = i
    · subst e; simp
    · rw [if_neg e, if_neg (Ne.symm e)]
      simp only [D.killL, D.kill]
      rw [if_neg (by omega)]
theorem purLL_ownV {h : Nat → Option AObj} {len : Nat → Nat} {g : Nat → AObj} : ∀ (l : List Nat), (∀ r ∈ l, h (r + 90000) = some (g r) ∧ (g r).flat = true ∧ (g r).rows.length = len r) →
    ∃ p, purLL (pur h 4) (l.map fun r => [D.own (r + 90000) 0 (len r)]) = some (l.map (· + 90000), p, l.map fun r => [D.sl false (g r).rows]) ∧ p
  | [], _ => ⟨True, rfl, trivial⟩
  | r :: l, hg => by
    obtain ⟨p, e, hp⟩ := purLL_ownV (h := h) (len := len) (g := g) l fun r hr => hg r (by simp [hr])
    obtain ⟨h1, h2, h3⟩ := hg r (by simp)
    refine ⟨((0 + len r ≤ (g r).rows.length) ∧ True) ∧ p, ?_, ⟨⟨by omega, trivial⟩, hp⟩⟩
    rw [List.map_cons, purLL, e]
    simp only [purL, pur, purB, h1, h2, if_true, List.nil_append, List.cons_append, List.map_cons, List.append_nil, List.drop_zero, List.take_of_length_le (Nat.le_of_eq h3)]

/-- Rows that are nil, from some place on. -/
def nilRows (j n : Nat) : List (List D) := (List.range n).map fun r => if r < j then [D.own (r + 90000) 0 0] else [D.sl true []]
theorem nilRows_zero (n : Nat) : nilRows 0 n = List.replicate n [D.sl true []] := by
  apply List.ext_getElem <;> simp [nilRows]
theorem nilRows_all (n : Nat) : nilRows n n = ownRowsV n fun _ => 0 := by
  apply List.ext_getElem
  · simp [nilRows, ownRowsV]
  · intro i h1 h2
    have : i < n := by simpa [nilRows] using h1
    simp [nilRows, ownRowsV, this]
theorem nilRows_set {j n : Nat} (h : j < n) : (nilRows j n).set j [D.own (j + 90000) 0 0] = nilRows (j + 1) n := by
  apply List.ext_getElem
  · simp [nilRows]
  · intro i h1 h2
    simp only [nilRows, List.getElem_set, List.getElem_map, List.getElem_range]
    by_cases e : j = i
    · subst e; simp
    · rw [if_neg e]
      by_cases g : i < j
      · rw [if_pos g, if_pos (by omega)]
      · rw [if_neg g, if_neg (by omega)]

def lowId (k : Nat) : Bool := decide (k < 90000)
mutual
theorem kill_low {r : Nat} : ∀ {d : D}, d.all lowId = true → d.kill (r + 90000) = d
  | .v _, _ => rfl
  | .agg cs, h => by simp only [D.kill, D.all] at *; rw [killL_low h]
  | .tup cs, h => by simp only [D.kill, D.all] at *; rw [killL_low h]
  | .sl _ _, _ => rfl
  | .ref _ _, _ => rfl
  | .own id _ _, h => by
    simp only [D.all, lowId, decide_eq_true_eq] at h
    simp only [D.kill]; rw [if_neg (by omega)]
  | .ptr id _ _, h => by
    simp only [D.all, lowId, decide_eq_true_eq] at h
    simp only [D.kill]; rw [if_neg (by omega)]
  | .fn _ _ cs, h => by simp only [D.kill, D.all] at *; rw [killL_low h]
  | .junk, _ => rfl
theorem killL_low {r : Nat} : ∀ {cs : List D}, D.allL lowId cs = true → D.killL (r + 90000) cs = cs
  | [], _ => rfl
  | c :: cs, h => by
    simp only [D.killL, D.allL, Bool.and_eq_true] at *
    rw [kill_low h.1, killL_low h.2]
end
theorem killO_low {r : Nat} {o : AObj} (h : o.all lowId = true) : o.kill (r + 90000) = o := by
  unfold AObj.kill
  split
  · rfl
  · rename_i hf
    simp only [AObj.all, Bool.or_eq_true] at h
    have h := h.resolve_left (by simpa using hf)
    have : o.rows.map (D.killL (r + 90000)) = o.rows := by
      rw [List.all_eq_true] at h
      conv => rhs; rw [← List.map_id o.rows]
      apply List.map_congr_left
      intro row hr
      rw [killL_low (h row hr)]; rfl
    rw [this]
section
variable {P : Program} {E : Ent}
theorem awp_fam {c : Code} {Q : Exit → St → Prop} (n : Nat) (sl : List (Nat × D)) (hp : List (Nat × AObj)) (id k s : Nat) (hs : 0 < s) (hid : decide (id < 90000) = true) (hsl : sl.all (fun x => x.2.all lowId) = true)
    (hhp : hp.all (fun x => decide (x.1 < 90000) && x.2.all lowId) = true)
    (h : AWP P E c Q (mkS n sl ((id, { sz := 1, rows := ownRowsV k fun _ => 0, flat := false }) :: (hp ++ fam k fun _ => { sz := s, rows := [] })))) :
    AWP P E c Q (mkS n sl ((id, { sz := 1, rows := List.replicate k [.sl true []], flat := false }) :: hp)) := by
  have hid := of_decide_eq_true hid
  rw [List.all_eq_true] at hsl hhp
  have key : ∀ j, j ≤ k → AWP P E c Q (mkS n sl ((id, { sz := 1, rows := nilRows (k - j) k, flat := false }) :: (hp ++ fam (k - j) fun _ => { sz := s, rows := [] }))) := by
    intro j
    induction j with
    | zero =>
      intro _
      rw [Nat.sub_zero, nilRows_all]
      exact h
    | succ j ih =>
      intro hj
      have ih := ih (by omega)
      rw [show k - j = (k - (j + 1)) + 1 by omega] at ih
      generalize hm : k - (j + 1) = m at *
      have hmk : m < k := by omega
      have hg : (nilRows m k)[m]? = some [.sl true []] := by simp [nilRows, hmk]
      have hkl : (nilRows m k).map (D.killL (m + 90000)) = nilRows m k := by
        simp only [nilRows, List.map_map]
        apply List.map_congr_left
        intro r hr
        simp only [Function.comp]
        split
        · simp only [D.killL, D.kill]; rw [if_neg (by omega)]
        · rfl
      refine awp_own_nilC id m 0 (m + 90000) s (o := { sz := 1, rows := nilRows m k, flat := false }) (row := [.sl true []]) hs ?_ hg rfl rfl ?_
      · simp only [St.bind, upd, killH, mkS, lk, if_true]
        rw [if_neg (by omega), if_neg (by omega)]
        simp only [Option.map_some, AObj.kill, Bool.false_eq_true, if_false, hkl]
      · refine awp_le ih ⟨rfl, fun t d hd => ?_, fun t o ho => ?_, ?_⟩
        · have := hsl _ (lk_mem hd)
          simp only [St.toOwnC, St.bind, killS, mkS]
          simp only [mkS] at hd
          rw [hd, Option.map_some, kill_low this]
        · simp only [St.toOwnC, St.bind, upd, mkS, lk] at ho ⊢
          by_cases ht : t = id
          · subst ht
            simp only [if_true, Option.some.injEq] at ho ⊢
            rw [← ho]
            simp only [List.set_cons_zero, nilRows_set hmk]
          · rw [if_neg ht] at ho ⊢
            rw [lk_app] at ho
            by_cases ht2 : t = m + 90000
            · subst ht2
              rw [if_pos rfl]
              rw [lk_none (l := hp) (fun x hx => by
                have := hhp x hx
                simp only [Bool.and_eq_true, decide_eq_true_eq] at this
                omega), lk_fam (Nat.lt_succ_self m)] at ho
              exact ho
            · rw [if_neg ht2]
              simp only [killH]
              rw [if_neg ht2, if_neg ht]
              cases hh : lk hp t with
              | some o' =>
                rw [hh] at ho
                simp only [Option.some.injEq] at ho
                subst ho
                have := hhp _ (lk_mem hh)
                simp only [Bool.and_eq_true] at this
                rw [lk_app, hh]
                simp only [Option.map_some, killO_low this.2]
              | none =>
                rw [hh] at ho
                simp only at ho
                rw [lk_app, hh]
                simp only
                have hmem := lk_mem ho
                obtain ⟨r, hr, e⟩ := List.mem_map.1 hmem
                have hr := List.mem_range.1 hr
                cases e
                rw [lk_fam (by omega)]
                rfl
        · exact fun _ h => h
  have := key k (Nat.le_refl _)
  rw [Nat.sub_self, nilRows_zero] at this
  simpa [fam] using this
end

end Go.Proofs.Ytbhjmioegdgpnaa
