import Derived.Test.YtbhjmioegdgpnaaFin
import Derived.Test.YtbhjmioegdgpnaaTy
set_option linter.unusedSimpArgs false
set_option linter.unusedVariables false
namespace Go.Proofs.Ytbhjmioegdgpnaa
open Go.Ab
def bleB (o p : List Bool) : Prop := o.length = p.length ∧ ∀ j, o.getD j false = true → p.getD j false = true
theorem bleB_refl (o : List Bool) : bleB o o := ⟨rfl, fun _ h => h⟩
theorem bleB_trans {o p q : List Bool} (h : bleB o p) (k : bleB p q) : bleB o q := ⟨h.1.trans k.1, fun j g => k.2 j (h.2 j g)⟩
theorem set_ble (o : List Bool) (i : Nat) : bleB o (o.set i true) := by
  refine ⟨by simp, fun j h => ?_⟩
  simp only [List.getD, List.getElem?_set] at h ⊢
  split
  · split
    · rfl
    · rename_i h1 h2
      rw [List.getElem?_eq_none (by omega)] at h; cases h
  · exact h
theorem ble_count : ∀ {o p : List Bool}, bleB o p → o.count true ≤ p.count true ∧ (o.count true = p.count true → o = p)
  | [], [], _ => ⟨Nat.le_refl _, fun _ => rfl⟩
  | [], _ :: _, h => by have := h.1; simp at this
  | _ :: _, [], h => by have := h.1; simp at this
  | a :: o, b :: p, h => by
    have h1 : bleB o p := ⟨by have := h.1; simpa using this, fun j g => by have := h.2 (j + 1); simpa using this (by simpa using g)⟩
    obtain ⟨g1, g2⟩ := ble_count h1
    have h0 : a = true → b = true := by have := h.2 0; simpa using this
    cases a <;> cases b
    · simp only [List.count_cons]; refine ⟨by simpa using g1, fun e => ?_⟩
      rw [g2 (by simpa using e)]
    · simp only [List.count_cons]
      refine ⟨by simp; omega, fun e => ?_⟩
      simp at e; omega
    · cases h0 rfl
    · simp only [List.count_cons]; refine ⟨by simpa using g1, fun e => ?_⟩
      rw [g2 (by simpa using e)]
def lowB (m : Nat) (c : Int) : Nat := (BitVec.ofInt IntKind.i64.bits c &&& BitVec.ofInt IntKind.i64.bits (m : Int)).toNat
theorem lowB_le (m : Nat) (c : Int) (hm : m ≤ 2147483647) : lowB m c ≤ m := by
  rw [lowB, BitVec.toNat_and]
  refine Nat.le_trans Nat.and_le_right ?_
  simp only [BitVec.toNat_ofInt]
  have : ((m : Int) % ((2 ^ IntKind.i64.bits : Nat) : Int)).toNat = m % 2 ^ IntKind.i64.bits := by
    rw [← Int.natCast_emod]; rfl
  rw [this]
  exact Nat.mod_le _ _
theorem lowB_wrap (m : Nat) (c : Int) (hm : m ≤ 2147483647) : IntKind.i64.wrap ((BitVec.ofInt IntKind.i64.bits c &&& BitVec.ofInt IntKind.i64.bits (m : Int)).toNat : Int) = (lowB m c : Int) := by
  have h := lowB_le m c hm
  exact i64_in (by omega) (by unfold lowB at h; omega)
theorem lowW1 (c : Int) : IntKind.i64.wrap ((BitVec.ofInt IntKind.i64.bits c &&& BitVec.ofInt IntKind.i64.bits 1).toNat : Int) = (lowB 1 c : Int) := lowB_wrap 1 c (by decide)
theorem lowW3 (c : Int) : IntKind.i64.wrap ((BitVec.ofInt IntKind.i64.bits c &&& BitVec.ofInt IntKind.i64.bits 3).toNat : Int) = (lowB 3 c : Int) := lowB_wrap 3 c (by decide)
theorem lowW7 (c : Int) : IntKind.i64.wrap ((BitVec.ofInt IntKind.i64.bits c &&& BitVec.ofInt IntKind.i64.bits 7).toNat : Int) = (lowB 7 c : Int) := lowB_wrap 7 c (by decide)
theorem lowW255 (c : Int) : IntKind.i64.wrap ((BitVec.ofInt IntKind.i64.bits c &&& BitVec.ofInt IntKind.i64.bits 255).toNat : Int) = (lowB 255 c : Int) := lowB_wrap 255 c (by decide)
theorem tmodN (a b : Nat) : Int.tmod (a : Int) (b : Int) = ((a % b : Nat) : Int) := rfl
def bos (l : List Bool) : List (List D) := l.map fun b => [bo b]
theorem bos_len (l : List Bool) : (bos l).length = l.length := by simp [bos]
theorem bos_get {l : List Bool} {i : Nat} (h : i < l.length) : (bos l).getD i [] = [bo (l.getD i false)] := by
  simp [bos, List.getD, List.getElem?_eq_getElem h]
theorem bos_take (l : List Bool) (k : Nat) : (bos l).take k = bos (l.take k) := by simp [bos]
def numD (z : Int) : Nat := lowB 7 z + 1
def startD (z : Int) : Nat := lowB 255 (z.fdiv (2 ^ min 3 IntKind.i64.bits)) % numD z
theorem numD_le (z : Int) : 1 ≤ numD z ∧ numD z ≤ 8 := by
  have h1 := lowB_le 7 z (by decide)
  unfold numD; omega
theorem startD_lt (z : Int) : startD z < numD z := Nat.mod_lt _ (by have := numD_le z; omega)
def finD (f : Int) (n : Nat) : List Bool := (List.range n).map fun i => ((lowB 1 (f.fdiv (2 ^ min i IntKind.i64.bits)) : Int) == 1)
theorem finD_len (f : Int) (n : Nat) : (finD f n).length = n := by simp [finD]
def mvF (k : Nat) (x : Int × Int × Int) : Nat := lowB 255 x.1 % k
def mvT (k : Nat) (x : Int × Int × Int) : Nat := lowB 255 x.2.1 % k
structure NOk (L k : Nat) (N : List (List Int)) : Prop where
  len : N.length = k
  row : ∀ r ∈ N, r.length = L ∧ ∀ t ∈ r, -1 ≤ t ∧ t < (k : Int)
theorem NOk.get {L k : Nat} {N : List (List Int)} (h : NOk L k N) {s : Nat} (hs : s < k) : (N.getD s []).length = L ∧ ∀ t ∈ N.getD s [], -1 ≤ t ∧ t < (k : Int) := by
  have hl := h.len
  have e : N.getD s [] = N[s]'(by omega) := by simp [List.getD, List.getElem?_eq_getElem (show s < N.length by omega)]
  rw [e]; exact h.row _ (List.getElem_mem _)
def fam (n : Nat) (g : Nat → AObj) : List (Nat × AObj) := (List.range n).map fun r => (r + 90000, g r)
theorem lk_none {α : Type} : ∀ {l : List (Nat × α)} {t : Nat}, (∀ x ∈ l, x.1 ≠ t) → lk l t = none
  | [], t, _ => rfl
  | (k, d) :: l, t, h => by
    rw [lk, if_neg (fun e => h (k, d) (by simp) e.symm)]
    exact lk_none fun x hx => h x (by simp [hx])
theorem lk_app {α : Type} : ∀ {l m : List (Nat × α)} {t : Nat}, lk (l ++ m) t = (match lk l t with | some d => some d | none => lk m t)
  | [], m, t => by simp [lk]
  | (k, d) :: l, m, t => by
    rw [List.cons_append, lk, lk]
    split
    · rfl
    · exact lk_app
theorem lk_fam {n : Nat} {g : Nat → AObj} {f : Nat} (h : f < n) : lk (fam n g) (f + 90000) = some (g f) := by
  induction n with
  | zero => omega
  | succ n ih =>
    rw [fam, List.range_succ, List.map_append, ← fam, lk_app]
    rcases Nat.lt_or_ge f n with q | q
    · rw [ih q]
    · have : f = n := by omega
      subst this
      rw [lk_none (by intro x hx; obtain ⟨r, hr, rfl⟩ := List.mem_map.1 hx; have := List.mem_range.1 hr; simp; omega)]
      simp [lk]
theorem knowsH_app {st : St} : ∀ {l m : List (Nat × AObj)}, KnowsH st (l ++ m) = (KnowsH st l ∧ KnowsH st m)
  | [], m => by simp [KnowsH]
  | (k, d) :: l, m => by rw [List.cons_append, KnowsH, KnowsH, knowsH_app, and_assoc]
theorem knowsH_iff {st : St} : ∀ {l : List (Nat × AObj)}, KnowsH st l ↔ ∀ x ∈ l, st.heap x.1 = some x.2
  | [] => by simp [KnowsH]
  | (k, d) :: l => by simp [KnowsH, knowsH_iff]
theorem knowsH_fam {st : St} {n : Nat} {g : Nat → AObj} : KnowsH st (fam n g) = ∀ r, r < n → st.heap (r + 90000) = some (g r) := by
  rw [eq_iff_iff, knowsH_iff]
  simp [fam]
theorem map90000_has {l : List Nat} {k : Nat} (h : decide (k < 90000) = true) : (l.map (· + 90000)).contains k = false := by
  have := of_decide_eq_true h
  simp only [List.contains_eq_mem, List.mem_map, decide_eq_false_iff_not]
  rintro ⟨r, _, q⟩; omega
def tri (l : List (Int × Int × Int)) : List (List D) := l.map fun x => [i64 x.1, i64 x.2.1, i64 x.2.2]
theorem tri_len (l : List (Int × Int × Int)) : (tri l).length = l.length := by simp [tri]
theorem tri_get {l : List (Int × Int × Int)} {i : Nat} (h : i < l.length) : (tri l).getD i [] = [i64 (l.getD i (0, 0, 0)).1, i64 (l.getD i (0, 0, 0)).2.1, i64 (l.getD i (0, 0, 0)).2.2] := by
  simp [tri, List.getD, List.getElem?_eq_getElem h]
def mvs (l : List (Int × Int)) : List (List D) := l.map fun x => [i64 x.1, i64 x.2]
theorem mvs_len (l : List (Int × Int)) : (mvs l).length = l.length := by simp [mvs]
theorem mvs_row (l : List (Int × Int)) : (∀ row ∈ mvs l, row.length = 2) = True := by
  simp only [mvs, List.mem_map, eq_iff_iff, iff_true]
  rintro row ⟨x, _, rfl⟩; rfl
theorem mvs_get {l : List (Int × Int)} {i : Nat} (h : i < l.length) : (mvs l).getD i [] = [i64 (l.getD i (0, 0)).1, i64 (l.getD i (0, 0)).2] := by
  simp [mvs, List.getD, List.getElem?_eq_getElem h]
theorem mvs_take (l : List (Int × Int)) (k : Nat) : (mvs l).take k = mvs (l.take k) := by simp [mvs]
theorem mvs_snoc (l : List (Int × Int)) (a b : Int) : mvs l ++ [[i64 a, i64 b]] = mvs (l ++ [(a, b)]) := by simp [mvs]
def mmv (M : List (List (Int × Int))) : List (List D) := M.map fun r => [.sl false (mvs r)]
theorem mmv_len (M : List (List (Int × Int))) : (mmv M).length = M.length := by simp [mmv]
theorem mmv_get {M : List (List (Int × Int))} {i : Nat} (h : i < M.length) : (mmv M).getD i [] = [.sl false (mvs (M.getD i []))] := by
  simp [mmv, List.getD, List.getElem?_eq_getElem h]
theorem mmv_take (M : List (List (Int × Int))) (k : Nat) : (mmv M).take k = mmv (M.take k) := by simp [mmv]
def nfaD (L s : Nat) (F : List Bool) (M : List (List (Int × Int))) : D := .agg [i64 L, i64 s, .sl false (bos F), .sl false (mmv M)]
def labN (z : Int) : Nat := lowB 3 z
theorem labN_le (z : Int) : labN z ≤ 3 := lowB_le 3 z (by decide)
def mvL (L : Nat) (x : Int × Int × Int) : Int := ((lowB 255 x.2.2 % (L + 1) : Nat) : Int) - 1
def addM (M : List (List (Int × Int))) (f : Nat) (a t : Int) : List (List (Int × Int)) := M.set f (M.getD f [] ++ [(a, t)])
def mvN (L k : Nat) (l : List (Int × Int × Int)) : Nat → List (List (Int × Int))
  | 0 => List.replicate k []
  | i + 1 => addM (mvN L k l i) (mvF k (l.getD i (0, 0, 0))) (mvL L (l.getD i (0, 0, 0))) (mvT k (l.getD i (0, 0, 0)))
def movN (L k : Nat) (l : List (Int × Int × Int)) : List (List (Int × Int)) := mvN L k l (min l.length 20)
theorem addM_get {M : List (List (Int × Int))} {f : Nat} (h : f < M.length) (a t : Int) (r : Nat) : (addM M f a t).getD r [] = if r = f then M.getD f [] ++ [(a, t)] else M.getD r [] := by
  unfold addM
  by_cases e : r = f
  · subst e
    rw [if_pos rfl, List.getD_eq_getElem?_getD, List.getElem?_set_self h]
    rfl
  · rw [if_neg e, List.getD_eq_getElem?_getD, List.getElem?_set_ne (Ne.symm e)]
    rfl
structure MOk (L k : Nat) (M : List (List (Int × Int))) : Prop where
  len : M.length = k
  row : ∀ r ∈ M, ∀ x ∈ r, -1 ≤ x.1 ∧ x.1 < (L : Int) ∧ 0 ≤ x.2 ∧ x.2 < (k : Int)
theorem MOk.get {L k : Nat} {M : List (List (Int × Int))} (h : MOk L k M) (s : Nat) : ∀ x ∈ M.getD s [], -1 ≤ x.1 ∧ x.1 < (L : Int) ∧ 0 ≤ x.2 ∧ x.2 < (k : Int) := by
  intro x hx
  rcases Nat.lt_or_ge s M.length with q | q
  · have e : M.getD s [] = M[s] := by simp [List.getD, List.getElem?_eq_getElem q]
    rw [e] at hx
    exact h.row _ (List.getElem_mem _) x hx
  · simp [List.getD, List.getElem?_eq_none q] at hx
theorem mvN_ok {L k : Nat} (hk : 1 ≤ k) (l : List (Int × Int × Int)) : ∀ i, MOk L k (mvN L k l i)
  | 0 => ⟨by simp [mvN], fun r hr => by rw [List.eq_of_mem_replicate hr]; simp⟩
  | i + 1 => by
    have ih := mvN_ok (L := L) hk l i
    refine ⟨by simp [mvN, addM, ih.len], fun r hr x hx => ?_⟩
    rcases List.mem_or_eq_of_mem_set hr with q | q
    · exact ih.row r q x hx
    · rw [q] at hx
      rcases List.mem_append.1 hx with q2 | q2
      · exact ih.get _ x q2
      · rw [List.mem_singleton.1 q2]
        have h1 : mvT k (l.getD i (0, 0, 0)) < k := Nat.mod_lt _ hk
        have h2 : lowB 255 (l.getD i (0, 0, 0)).2.2 % (L + 1) < L + 1 := Nat.mod_lt _ (by omega)
        simp only [mvL]
        omega
theorem movN_ok {L k : Nat} (hk : 1 ≤ k) (l : List (Int × Int × Int)) : MOk L k (movN L k l) := mvN_ok hk l _
theorem mvN_rl {L k : Nat} (l : List (Int × Int × Int)) : ∀ i s, ((mvN L k l i).getD s []).length ≤ i
  | 0, s => by
    rcases Nat.lt_or_ge s k with h | h
    · simp [mvN, List.getD, h]
    · simp [mvN, List.getD, List.getElem?_eq_none (show (List.replicate k ([] : List (Int × Int))).length ≤ s by simpa using h)]
  | i + 1, s => by
    have ih := mvN_rl (L := L) (k := k) l i
    simp only [mvN, addM]
    generalize mvF k (l.getD i (0, 0, 0)) = f
    by_cases hs : s = f
    · subst hs
      rcases Nat.lt_or_ge s (mvN L k l i).length with h | h
      · have : ((mvN L k l i).set s ((mvN L k l i).getD s [] ++ [(mvL L (l.getD i (0, 0, 0)), (mvT k (l.getD i (0, 0, 0)) : Int))])).getD s [] = (mvN L k l i).getD s [] ++ [(mvL L (l.getD i (0, 0, 0)), (mvT k (l.getD i (0, 0, 0)) : Int))] := by
          simp [List.getD, h]
        rw [this, List.length_append]
        exact Nat.succ_le_succ (ih s)
      · rw [List.set_eq_of_length_le h]
        exact Nat.le_succ_of_le (ih s)
    · have : ((mvN L k l i).set f ((mvN L k l i).getD f [] ++ [(mvL L (l.getD i (0, 0, 0)), (mvT k (l.getD i (0, 0, 0)) : Int))])).getD s [] = (mvN L k l i).getD s [] := by
        simp [List.getD, List.getElem?_set_ne (Ne.symm hs)]
      rw [this]
      have := ih s
      omega
def ownRowsV (n : Nat) (g : Nat → Nat) : List (List D) := (List.range n).map fun r => [D.own (r + 90000) 0 (g r)]
theorem ownRowsV_len (n : Nat) (g : Nat → Nat) : (ownRowsV n g).length = n := by simp [ownRowsV]
theorem ownRowsV_get {n f : Nat} {g : Nat → Nat} (h : f < n) : (ownRowsV n g).getD f [] = [D.own (f + 90000) 0 (g f)] := by simp [ownRowsV, List.getD, h]
theorem ownRowsV_kill {n k : Nat} {g : Nat → Nat} (h : decide (k < 90000) = true) : (ownRowsV n g).map (D.killL k) = ownRowsV n g := by
  have := of_decide_eq_true h
  simp only [ownRowsV, List.map_map]
  apply List.map_congr_left
  intro r hr
  simp only [Function.comp, D.killL, D.kill]
  rw [if_neg (by omega)]
theorem ownRowsV_killF {n f : Nat} {g : Nat → Nat} (h : f < n) : ((ownRowsV n g).map (D.killL (f + 90000))).getD f [] = [D.junk] := by
  simp [ownRowsV, List.getD, h, D.killL, D.kill]
theorem ownRowsV_setK {n f : Nat} {g : Nat → Nat} (m : Nat) (h : f < n) : ((ownRowsV n g).map (D.killL (f + 90000))).set f [D.own (f + 90000) 0 m] = ownRowsV n fun r => if r = f then m else g r := by
  apply List.ext_getElem
  · simp [ownRowsV]
  · intro i h1 h2
    simp only [ownRowsV, List.getElem_set, List.getElem_map, List.getElem_range]
    by_cases e : f = i
    · subst e; simp
    · rw [if_neg e, if_neg (Ne.symm e)]
      simp only [D.killL, D.kill]
      rw [if_neg (by omega)]
theorem purLL_ownV {h : Nat → Option AObj} {len : Nat → Nat} {g : Nat → AObj} : ∀ (l : List Nat), (∀ r ∈ l, h (r + 90000) = some (g r) ∧ (g r).flat = true ∧ (g r).rows.length = len r) →
    ∃ p, purLL (pur h 4) (l.map fun r => [D.own (r + 90000) 0 (len r)]) = some (l.map (· + 90000), p, l.map fun r => [D.sl false (g r).rows]) ∧ p
  | [], _ => ⟨True, rfl, trivial⟩
  | r :: l, hg => by
    obtain ⟨p, e, hp⟩ := purLL_ownV (h := h) (len := len) (g := g) l fun r hr => hg r (by simp [hr])
    obtain ⟨h1, h2, h3⟩ := hg r (by simp)
    refine ⟨((0 + len r ≤ (g r).rows.length) ∧ True) ∧ p, ?_, ⟨⟨by omega, trivial⟩, hp⟩⟩
    rw [List.map_cons, purLL, e]
    simp only [purL, pur, purB, h1, h2, if_true, List.nil_append, List.cons_append, List.map_cons, List.append_nil, List.drop_zero, List.take_of_length_le (Nat.le_of_eq h3)]
def nilRows (j n : Nat) : List (List D) := (List.range n).map fun r => if r < j then [D.own (r + 90000) 0 0] else [D.sl true []]
theorem nilRows_zero (n : Nat) : nilRows 0 n = List.replicate n [D.sl true []] := by
  apply List.ext_getElem <;> simp [nilRows]
theorem nilRows_all (n : Nat) : nilRows n n = ownRowsV n fun _ => 0 := by
  apply List.ext_getElem
  · simp [nilRows, ownRowsV]
  · intro i h1 h2
    have : i < n := by simpa [nilRows] using h1
    simp [nilRows, ownRowsV, this]
theorem nilRows_set {j n : Nat} (h : j < n) : (nilRows j n).set j [D.own (j + 90000) 0 0] = nilRows (j + 1) n := by
  apply List.ext_getElem
  · simp [nilRows]
  · intro i h1 h2
    simp only [nilRows, List.getElem_set, List.getElem_map, List.getElem_range]
    by_cases e : j = i
    · subst e; simp
    · rw [if_neg e]
      by_cases g : i < j
      · rw [if_pos g, if_pos (by omega)]
      · rw [if_neg g, if_neg (by omega)]
def lowId (k : Nat) : Bool := decide (k < 90000)
mutual
theorem kill_low {r : Nat} : ∀ {d : D}, d.all lowId = true → d.kill (r + 90000) = d
  | .v _, _ => rfl
  | .agg cs, h => by simp only [D.kill, D.all] at *; rw [killL_low h]
  | .tup cs, h => by simp only [D.kill, D.all] at *; rw [killL_low h]
  | .sl _ _, _ => rfl
  | .ref _ _, _ => rfl
  | .own id _ _, h => by
    simp only [D.all, lowId, decide_eq_true_eq] at h
    simp only [D.kill]; rw [if_neg (by omega)]
  | .ptr id _ _, h => by
    simp only [D.all, lowId, decide_eq_true_eq] at h
    simp only [D.kill]; rw [if_neg (by omega)]
  | .fn _ _ cs, h => by simp only [D.kill, D.all] at *; rw [killL_low h]
  | .junk, _ => rfl
theorem killL_low {r : Nat} : ∀ {cs : List D}, D.allL lowId cs = true → D.killL (r + 90000) cs = cs
  | [], _ => rfl
  | c :: cs, h => by
    simp only [D.killL, D.allL, Bool.and_eq_true] at *
    rw [kill_low h.1, killL_low h.2]
end
theorem killO_low {r : Nat} {o : AObj} (h : o.all lowId = true) : o.kill (r + 90000) = o := by
  unfold AObj.kill
  split
  · rfl
  · rename_i hf
    simp only [AObj.all, Bool.or_eq_true] at h
    have h := h.resolve_left (by simpa using hf)
    have : o.rows.map (D.killL (r + 90000)) = o.rows := by
      rw [List.all_eq_true] at h
      conv => rhs; rw [← List.map_id o.rows]
      apply List.map_congr_left
      intro row hr
      rw [killL_low (h row hr)]; rfl
    rw [this]
section
variable {P : Program} {E : Ent}
theorem awp_fam {c : Code} {Q : Exit → St → Prop} (n : Nat) (sl : List (Nat × D)) (hp : List (Nat × AObj)) (id k s : Nat) (hs : 0 < s) (hid : decide (id < 90000) = true) (hsl : sl.all (fun x => x.2.all lowId) = true)
    (hhp : hp.all (fun x => decide (x.1 < 90000) && x.2.all lowId) = true)
    (h : AWP P E c Q (mkS n sl ((id, { sz := 1, rows := ownRowsV k fun _ => 0, flat := false }) :: (hp ++ fam k fun _ => { sz := s, rows := [] })))) :
    AWP P E c Q (mkS n sl ((id, { sz := 1, rows := List.replicate k [.sl true []], flat := false }) :: hp)) := by
  have hid := of_decide_eq_true hid
  rw [List.all_eq_true] at hsl hhp
  have key : ∀ j, j ≤ k → AWP P E c Q (mkS n sl ((id, { sz := 1, rows := nilRows (k - j) k, flat := false }) :: (hp ++ fam (k - j) fun _ => { sz := s, rows := [] }))) := by
    intro j
    induction j with
    | zero =>
      intro _
      rw [Nat.sub_zero, nilRows_all]
      exact h
    | succ j ih =>
      intro hj
      have ih := ih (by omega)
      rw [show k - j = (k - (j + 1)) + 1 by omega] at ih
      generalize hm : k - (j + 1) = m at *
      have hmk : m < k := by omega
      have hg : (nilRows m k)[m]? = some [.sl true []] := by simp [nilRows, hmk]
      have hkl : (nilRows m k).map (D.killL (m + 90000)) = nilRows m k := by
        simp only [nilRows, List.map_map]
        apply List.map_congr_left
        intro r hr
        simp only [Function.comp]
        split
        · simp only [D.killL, D.kill]; rw [if_neg (by omega)]
        · rfl
      refine awp_own_nilC id m 0 (m + 90000) s (o := { sz := 1, rows := nilRows m k, flat := false }) (row := [.sl true []]) hs ?_ hg rfl rfl ?_
      · simp only [St.bind, upd, killH, mkS, lk, if_true]
        rw [if_neg (by omega), if_neg (by omega)]
        simp only [Option.map_some, AObj.kill, Bool.false_eq_true, if_false, hkl]
      · refine awp_le ih ⟨rfl, fun t d hd => ?_, fun t o ho => ?_, ?_⟩
        · have := hsl _ (lk_mem hd)
          simp only [St.toOwnC, St.bind, killS, mkS]
          simp only [mkS] at hd
          rw [hd, Option.map_some, kill_low this]
        · simp only [St.toOwnC, St.bind, upd, mkS, lk] at ho ⊢
          by_cases ht : t = id
          · subst ht
            simp only [if_true, Option.some.injEq] at ho ⊢
            rw [← ho]
            simp only [List.set_cons_zero, nilRows_set hmk]
          · rw [if_neg ht] at ho ⊢
            rw [lk_app] at ho
            by_cases ht2 : t = m + 90000
            · subst ht2
              rw [if_pos rfl]
              rw [lk_none (l := hp) (fun x hx => by
                have := hhp x hx
                simp only [Bool.and_eq_true, decide_eq_true_eq] at this
                omega), lk_fam (Nat.lt_succ_self m)] at ho
              exact ho
            · rw [if_neg ht2]
              simp only [killH]
              rw [if_neg ht2, if_neg ht]
              cases hh : lk hp t with
              | some o' =>
                rw [hh] at ho
                simp only [Option.some.injEq] at ho
                subst ho
                have := hhp _ (lk_mem hh)
                simp only [Bool.and_eq_true] at this
                rw [lk_app, hh]
                simp only [Option.map_some, killO_low this.2]
              | none =>
                rw [hh] at ho
                simp only at ho
                rw [lk_app, hh]
                simp only
                have hmem := lk_mem ho
                obtain ⟨r, hr, e⟩ := List.mem_map.1 hmem
                have hr := List.mem_range.1 hr
                cases e
                rw [lk_fam (by omega)]
                rfl
        · exact fun _ h => h
  have := key k (Nat.le_refl _)
  rw [Nat.sub_self, nilRows_zero] at this
  simpa [fam] using this
end
def bitF (f : Int) (i : Nat) : Bool := ((lowB 1 (f.fdiv (2 ^ min i IntKind.i64.bits)) : Int) == 1)
def finP (f : Int) (k i : Nat) : List Bool := (List.range k).map fun j => if j < i then bitF f j else false
theorem finP_len (f : Int) (k i : Nat) : (finP f k i).length = k := by simp [finP]
theorem finP_zero (f : Int) (k : Nat) : finP f k 0 = List.replicate k false := by
  apply List.ext_getElem <;> simp [finP]
theorem finP_all (f : Int) (k : Nat) : finP f k k = finD f k := by
  apply List.ext_getElem
  · simp [finP, finD]
  · intro i h1 h2
    have : i < k := by simpa [finP] using h1
    simp [finP, finD, bitF, this]
theorem finP_set {f : Int} {k i : Nat} (h : i < k) : (finP f k i).set i (bitF f i) = finP f k (i + 1) := by
  apply List.ext_getElem
  · simp [finP]
  · intro j h1 h2
    simp only [finP, List.getElem_set, List.getElem_map, List.getElem_range]
    split
    · rename_i e; subst e; rw [if_pos (by omega)]
    · split <;> split <;> first | rfl | omega
set_option maxRecDepth 20000 in
set_option maxHeartbeats 16000000 in
theorem c_Nfa (f : Bool) (l : List (Int × Int × Int)) (fin z0 z1 : Int) (hl : l.length ≤ 9223372036854775807) : Contract Try.prog 7 [.sl f (tri l), i64 fin, .agg [i64 z0, i64 z1]] (nfaD (labN z0) (startD z1) (finD fin (numD z1)) (movN (labN z0) (numD z1) l)) [] := by
  refine contract_of_awpV ttok (rs := [.cell 6 27]) Try.func7 rfl Try.ntmps7 (by simp) rfl fun E => ?_
  have hL := labN_le z0
  have hk := numD_le z1
  have hLe : (lowB 3 z0 : Int) = (labN z0 : Int) := rfl
  have hkw : IntKind.i64.wrap ((lowB 7 z1 : Int) + 1) = (numD z1 : Int) := by
    unfold numD at hk ⊢
    exact i64_in (by omega) (by omega)
  have hs1 := startD_lt z1
  have hsw : lowB 255 (z1.fdiv (2 ^ min 3 IntKind.i64.bits)) % numD z1 = startD z1 := rfl
  have hokm := fun n => mvN_ok (L := labN z0) hk.1 l n
  (repeat (first | refine awp_seq ?_ | refine awp_block ?_ | ((first | refine awp_skip ?_ | refine awp_exit ?_ | refine awp_reg ttok ?_ | (refine awp_draw ttok ?dr_calm ?_; (case dr_calm => decide +kernel)) | refine awp_condM ?_); simp (maxSteps := 4000000) only [↓reduceIte, Nat.reduceLT, Nat.reduceEqDiff, reduceCtorEq, Nat.reduceAdd, Nat.reduceMul, Int.reduceLE, Int.reduceLT, Int.reduceToNat, Nat.reduceLeDiff, Nat.reduceSub, Int.reduceEq, Nat.reduceBEq, List.replicate, List.set, evB, tyA, lowW3, lowW7, hLe, hkw]; (repeat (with_reducible refine And.intro ?_ ?_; exact sdX)); (with_reducible first | refine awp_id ?_ | refine id_call ?_ | refine id_and ?_ | refine id_ex ?_ | refine id_all ?_ | refine id_nat ?_ | refine id_le ?_))))
  obtain ⟨L, eL⟩ : ∃ L, L = labN z0 := ⟨_, rfl⟩
  obtain ⟨k, ek⟩ : ∃ k, k = numD z1 := ⟨_, rfl⟩
  rw [← eL] at hL hLe hokm ⊢
  rw [← ek] at hk hkw hs1 hsw hokm ⊢
  have zb : List.replicate k (List.map ofAtom (Value.bool false).cells.toList) = bos (List.replicate k false) := by simp only [bos, List.map_replicate]; rfl
  have zn : List.replicate k (List.map ofAtom (Value.slice none 0 0).cells.toList) = List.replicate k [D.sl true []] := rfl
  refine awp_drawS ttok (mkS 99 [(0, .sl f (tri l)), (1, i64 fin), (5, .ptr 1000 0 0), (6, .ptr 1001 0 0), (7, i64 k)]
    [(4001, { sz := 1, rows := List.replicate k [D.sl true []] }), (1000, { sz := 2, rows := [[i64 z0, i64 z1]], flat := false }), (1001, { sz := 4, rows := [[i64 L, i64 0, .own 4003 0 k, .own 4001 0 k]], flat := false }), (4003, { sz := 1, rows := bos (List.replicate k false) })]) (.nd 1 3 .lf (.nd 3 5 .lf .lf)) [((0, none) :: (2, none) :: (3, some [0]) :: (1, some []) :: (4, none) :: (5, some []) :: (6, none) :: (7, some []) :: []), ((0, none) :: (2, none) :: (1, some [2]) :: (4, none) :: (5, some [2]) :: (3, some []) :: (6, none) :: (7, some []) :: []), ((0, none) :: (2, none) :: (1, some [2]) :: (4, none) :: (3, some [4]) :: (5, some []) :: (6, none) :: (7, some []) :: [])] [0, 2, 1, 4, 3, 5, 6, 7] [0, 1, 2, 3, 4, 5, 6, 7] [0, 1, 2, 3, 4, 5, 6, 7] (by decide +kernel) ?_ (fun O hO => ?_)
  rotate_left
  · simp only [OpsAre, Nat.reduceAdd, and_true] at hO
    simp only [aopsS_cons, aopsS_nil, and_true]
    repeat' apply And.intro
    all_goals
      simp (maxSteps := 4000000) only [↓reduceIte, Nat.reduceLT, Nat.reduceEqDiff, reduceCtorEq, Nat.reduceAdd, Nat.reduceMul, Int.reduceLE, Int.reduceLT, Int.reduceToNat, Nat.reduceLeDiff, Nat.reduceSub, Int.reduceEq, Nat.reduceBEq, List.replicate, List.set, evB, tyA, hO, zb, zn]; (repeat (with_reducible refine And.intro ?_ ?_; exact sdX))
      refine mkS_le rfl ?_ ?_
      · exact evX
      · simp (maxSteps := 4000000) only [↓reduceIte, Nat.reduceLT, Nat.reduceEqDiff, reduceCtorEq, Nat.reduceAdd, Nat.reduceMul, Int.reduceLE, Int.reduceLT, Int.reduceToNat, Nat.reduceLeDiff, Nat.reduceSub, Int.reduceEq, Nat.reduceBEq, List.replicate, List.set, evB, zb, zn]
  · refine awp_unflat 4001 ?_
    refine awp_at 99 [(0, .sl f (tri l)), (1, i64 fin), (5, .ptr 1000 0 0), (6, .ptr 1001 0 0), (7, i64 k)]
      [(4001, { sz := 1, rows := List.replicate k [D.sl true []], flat := false }), (1000, { sz := 2, rows := [[i64 z0, i64 z1]], flat := false }), (1001, { sz := 4, rows := [[i64 L, i64 0, .own 4003 0 k, .own 4001 0 k]], flat := false }), (4003, { sz := 1, rows := bos (List.replicate k false) })] rfl evX evX ?_
    refine awp_fam 99 _ _ 4001 k 2 (by decide) rfl rfl rfl ?_
    (repeat (first | refine awp_seq ?_ | refine awp_block ?_ | ((first | refine awp_skip ?_ | refine awp_exit ?_ | refine awp_reg ttok ?_ | (refine awp_draw ttok ?dr_calm ?_; (case dr_calm => decide +kernel)) | refine awp_condM ?_); simp (maxSteps := 4000000) only [↓reduceIte, Nat.reduceLT, Nat.reduceEqDiff, reduceCtorEq, Nat.reduceAdd, Nat.reduceMul, Int.reduceLE, Int.reduceLT, Int.reduceToNat, Nat.reduceLeDiff, Nat.reduceSub, Int.reduceEq, Nat.reduceBEq, List.replicate, List.set, evB, tyA]; (repeat (with_reducible refine And.intro ?_ ?_; exact sdX)); (with_reducible first | refine awp_id ?_ | refine id_call ?_ | refine id_and ?_ | refine id_ex ?_ | refine id_all ?_ | refine id_nat ?_ | refine id_le ?_))))
    refine awp_loop (X := Nat) (fun i => mkS 99 [(0, .sl f (tri l)), (1, i64 fin), (5, .ptr 1000 0 0), (6, .ptr 1001 0 0), (7, i64 k), (8, i64 i)]
        ([(4001, { sz := 1, rows := ownRowsV k fun _ => 0, flat := false }), (1000, { sz := 2, rows := [[i64 z0, i64 z1]], flat := false }), (1001, { sz := 4, rows := [[i64 L, i64 0, .own 4003 0 k, .own 4001 0 k]], flat := false }), (4003, { sz := 1, rows := bos (finP fin k i) })] ++ fam k fun _ => { sz := 2, rows := [] }))
      (fun i => i ≤ k) (fun i => k - i) 0 (by omega) (mkS_le rfl ?_ ?_) ?_
    · simp (maxSteps := 4000000) only [↓reduceIte, Nat.reduceLT, Nat.reduceEqDiff, reduceCtorEq, Nat.reduceAdd, Nat.reduceMul, Int.reduceLE, Int.reduceLT, Int.reduceToNat, Nat.reduceLeDiff, Nat.reduceSub, Int.reduceEq, Nat.reduceBEq, List.replicate, List.set, evB]
      try rfl
    · simp (maxSteps := 4000000) only [↓reduceIte, Nat.reduceLT, Nat.reduceEqDiff, reduceCtorEq, Nat.reduceAdd, Nat.reduceMul, Int.reduceLE, Int.reduceLT, Int.reduceToNat, Nat.reduceLeDiff, Nat.reduceSub, Int.reduceEq, Nat.reduceBEq, List.replicate, List.set, evB, knowsH_app, knowsH_fam, finP_zero]
      intro r hr
      rw [lk_fam hr]
    · intro i hi
      have hfl := finP_len fin k i
      by_cases hlt : i < k
      · have d1 : decide ((i : Int) < (k : Int)) = true := by simpa using hlt
        have hw : IntKind.i64.wrap ((i : Int) + 1) = ((i + 1 : Nat) : Int) := i64_in (by omega) (by omega)
        have hu : IntKind.u64.wrap (i : Int) = (i : Int) := by
          simp only [IntKind.wrap, IntKind.bits, IntKind.signed, Bool.false_eq_true, if_false]
          first | omega | (simp; omega) | simp
        have hs := finP_set (f := fin) hlt
        have hse : (bos (finP fin k i)).set i [D.v (Value.bool (bitF fin i))] = bos (finP fin k (i + 1)) := by rw [← hs]; simp [bos]
        have hbF : ((lowB 1 (fin.fdiv (2 ^ min i IntKind.i64.bits)) : Int) == 1) = bitF fin i := rfl
        have hgF := bos_get (l := finP fin k i) (i := i) (by omega)
        (repeat (first | refine awp_seq ?_ | refine awp_block ?_ | ((first | refine awp_skip ?_ | refine awp_exit ?_ | refine awp_reg ttok ?_ | (refine awp_draw ttok ?dr_calm ?_; (case dr_calm => decide +kernel)) | refine awp_condM ?_); simp (maxSteps := 4000000) only [↓reduceIte, Nat.reduceLT, Nat.reduceEqDiff, reduceCtorEq, Nat.reduceAdd, Nat.reduceMul, Int.reduceLE, Int.reduceLT, Int.reduceToNat, Nat.reduceLeDiff, Nat.reduceSub, Int.reduceEq, Nat.reduceBEq, List.replicate, List.set, evB, tyA, d1, hw, hu, lowW1, bos_len, hfl, hgF, hbF, hse]; (repeat (with_reducible refine And.intro ?_ ?_; exact sdX)); (with_reducible first | refine awp_id ?_ | refine id_call ?_ | refine id_and ?_ | refine id_ex ?_ | refine id_all ?_ | refine id_nat ?_ | refine id_le ?_))))
        refine ⟨i + 1, by omega, by omega, mkS_le rfl ?_ ?_⟩
        · exact evX
        · simp (maxSteps := 4000000) only [↓reduceIte, Nat.reduceLT, Nat.reduceEqDiff, reduceCtorEq, Nat.reduceAdd, Nat.reduceMul, Int.reduceLE, Int.reduceLT, Int.reduceToNat, Nat.reduceLeDiff, Nat.reduceSub, Int.reduceEq, Nat.reduceBEq, List.replicate, List.set, evB, knowsH_app, knowsH_fam, hse]
          intro r hr
          rw [lk_fam hr]
      · have d1 : decide ((i : Int) < (k : Int)) = false := by simpa using hlt
        obtain rfl : i = k := by omega
        rw [finP_all]
        (repeat (first | refine awp_seq ?_ | refine awp_block ?_ | ((first | refine awp_skip ?_ | refine awp_exit ?_ | refine awp_reg ttok ?_ | (refine awp_draw ttok ?dr_calm ?_; (case dr_calm => decide +kernel)) | refine awp_condM ?_); simp (maxSteps := 4000000) only [↓reduceIte, Nat.reduceLT, Nat.reduceEqDiff, reduceCtorEq, Nat.reduceAdd, Nat.reduceMul, Int.reduceLE, Int.reduceLT, Int.reduceToNat, Nat.reduceLeDiff, Nat.reduceSub, Int.reduceEq, Nat.reduceBEq, List.replicate, List.set, evB, tyA, d1]; (repeat (with_reducible refine And.intro ?_ ?_; exact sdX)); (with_reducible first | refine awp_id ?_ | refine id_call ?_ | refine id_and ?_ | refine id_ex ?_ | refine id_all ?_ | refine id_nat ?_ | refine id_le ?_))))
        refine awp_loop (X := Nat) (fun n => mkS 99 [(0, .sl f (tri l)), (5, .ptr 1000 0 0), (6, .ptr 1001 0 0), (7, i64 i), (9, i64 n)]
            ([(4001, { sz := 1, rows := ownRowsV i fun r => ((mvN L i l n).getD r []).length, flat := false }), (1000, { sz := 2, rows := [[i64 z0, i64 z1]], flat := false }), (1001, { sz := 4, rows := [[i64 L, i64 0, .own 4003 0 i, .own 4001 0 i]], flat := false }), (4003, { sz := 1, rows := bos (finD fin i) })] ++ fam i fun r => { sz := 2, rows := mvs ((mvN L i l n).getD r []) }))
          (fun n => n ≤ min l.length 20) (fun n => 20 - n) 0 (Nat.zero_le _) (mkS_le rfl ?_ ?_) ?_
        · simp (maxSteps := 4000000) only [↓reduceIte, Nat.reduceLT, Nat.reduceEqDiff, reduceCtorEq, Nat.reduceAdd, Nat.reduceMul, Int.reduceLE, Int.reduceLT, Int.reduceToNat, Nat.reduceLeDiff, Nat.reduceSub, Int.reduceEq, Nat.reduceBEq, List.replicate, List.set, evB]
          try rfl
        · have h00 : ∀ r, (mvN L i l 0).getD r [] = [] := fun r => by
            rcases Nat.lt_or_ge r i with h | h
            · simp [mvN, List.getD, h]
            · simp [mvN, List.getD, List.getElem?_eq_none (show (List.replicate i ([] : List (Int × Int))).length ≤ r by simpa using h)]
          simp (maxSteps := 4000000) only [↓reduceIte, Nat.reduceLT, Nat.reduceEqDiff, reduceCtorEq, Nat.reduceAdd, Nat.reduceMul, Int.reduceLE, Int.reduceLT, Int.reduceToNat, Nat.reduceLeDiff, Nat.reduceSub, Int.reduceEq, Nat.reduceBEq, List.replicate, List.set, evB, knowsH_app, knowsH_fam, h00, mvs]
          intro r hr
          rw [lk_fam hr]
        · intro n hn
          by_cases hlt2 : n < min l.length 20
          · have e1 : decide ((n : Int) < (l.length : Int)) = true := by simp; omega
            have e2 : decide ((n : Int) < 20) = true := by simp; omega
            have hgt := tri_get (l := l) (i := n) (by omega)
            have hF : mvF i (l.getD n (0, 0, 0)) < i := Nat.mod_lt _ (by omega)
            have hT : mvT i (l.getD n (0, 0, 0)) < i := Nat.mod_lt _ (by omega)
            have hC : lowB 255 (l.getD n (0, 0, 0)).2.2 % (L + 1) < L + 1 := Nat.mod_lt _ (by omega)
            have hstep : mvN L i l (n + 1) = addM (mvN L i l n) (mvF i (l.getD n (0, 0, 0))) (mvL L (l.getD n (0, 0, 0))) (mvT i (l.getD n (0, 0, 0))) := rfl
            generalize hx : l.getD n (0, 0, 0) = x at *
            obtain ⟨x1, x2, x3⟩ := x
            obtain ⟨F, hFe⟩ : ∃ F, mvF i (x1, x2, x3) = F := ⟨_, rfl⟩
            obtain ⟨T, hTe⟩ : ∃ T, mvT i (x1, x2, x3) = T := ⟨_, rfl⟩
            obtain ⟨C, hCe⟩ : ∃ C, lowB 255 x3 % (L + 1) = C := ⟨_, rfl⟩
            rw [hFe] at hF hstep; rw [hTe] at hT hstep
            have hLe : mvL L (x1, x2, x3) = (C : Int) - 1 := by simp only [mvL, hCe]
            rw [hLe] at hstep
            have mF : lowB 255 x1 % i = F := hFe
            have mT : lowB 255 x2 % i = T := hTe
            rw [hCe] at hC
            have wF : IntKind.i64.wrap (F : Int) = (F : Int) := i64_in (by omega) (by omega)
            have wT : IntKind.i64.wrap (T : Int) = (T : Int) := i64_in (by omega) (by omega)
            have wC : IntKind.i64.wrap (C : Int) = (C : Int) := i64_in (by omega) (by omega)
            have wC2 : IntKind.i64.wrap ((C : Int) - 1) = (C : Int) - 1 := i64_in (by omega) (by omega)
            have wL : IntKind.i64.wrap ((L : Int) + 1) = ((L + 1 : Nat) : Int) := i64_in (by omega) (by omega)
            have z1' : (((i : Nat) : Int) == 0) = false := by simp; omega
            have z2' : (((L + 1 : Nat) : Int) == 0) = false := by rw [beq_eq_false_iff_ne]; omega
            have z3' : (((i : Nat) : Int) = 0) = False := eq_false (by omega)
            have z4' : (((L + 1 : Nat) : Int) = 0) = False := eq_false (by omega)
            have hg := ownRowsV_get (g := fun r => ((mvN L i l n).getD r []).length) hF
            have hw : IntKind.i64.wrap ((n : Int) + 1) = ((n + 1 : Nat) : Int) := i64_in (by omega) (by omega)
            (repeat (first | refine awp_seq ?_ | refine awp_block ?_ | ((first | refine awp_skip ?_ | refine awp_exit ?_ | refine awp_reg ttok ?_ | (refine awp_draw ttok ?dr_calm ?_; (case dr_calm => decide +kernel)) | refine awp_condM ?_); simp (maxSteps := 4000000) only [↓reduceIte, Nat.reduceLT, Nat.reduceEqDiff, reduceCtorEq, Nat.reduceAdd, Nat.reduceMul, Int.reduceLE, Int.reduceLT, Int.reduceToNat, Nat.reduceLeDiff, Nat.reduceSub, Int.reduceEq, Nat.reduceBEq, List.replicate, List.set, evB, tyA, e1, e2, tri_len]; (repeat (with_reducible refine And.intro ?_ ?_; exact sdX)); (with_reducible first | refine awp_id ?_ | refine id_call ?_ | refine id_and ?_ | refine id_ex ?_ | refine id_all ?_ | refine id_nat ?_ | refine id_le ?_))))
            refine awp_drawG ttok ((0, none) :: (1, none) :: (2, none) :: (3, none) :: (4, none) :: (5, none) :: (6, none) :: (7, none) :: (8, none) :: (9, none) :: (10, none) :: (11, none) :: (12, none) :: (13, none) :: (14, none) :: (15, none) :: (16, none) :: (17, none) :: []) (0 :: 1 :: 2 :: 3 :: 4 :: 5 :: 6 :: 7 :: 8 :: 9 :: 10 :: 11 :: 12 :: 13 :: 14 :: 15 :: 16 :: 17 :: []) (0 :: 1 :: 2 :: 3 :: 4 :: 5 :: 6 :: 7 :: 16 :: 8 :: 9 :: 10 :: 11 :: 12 :: 13 :: 14 :: 15 :: 17 :: []) (by decide +kernel) fun O hO => ?_; simp only [OpsAre, Nat.reduceAdd, and_true, List.toList_toArray, List.append_eq, List.cons_append, List.nil_append] at hO; simp (maxSteps := 4000000) only [↓reduceIte, Nat.reduceLT, Nat.reduceEqDiff, reduceCtorEq, Nat.reduceAdd, Nat.reduceMul, Int.reduceLE, Int.reduceLT, Int.reduceToNat, Nat.reduceLeDiff, Nat.reduceSub, Int.reduceEq, Nat.reduceBEq, List.replicate, List.set, evB, tyA, hO, tri_len, hgt, lowW255, tmodN, mF, mT, wF, wT, z1', z3']; (repeat (with_reducible refine And.intro ?_ ?_; exact sdX))
            have hMr := mvs_snoc ((mvN L i l n).getD F []) ((C : Int) - 1) (T : Int)
            have hMt : List.take ((mvN L i l n).getD F []).length ((mvN L i l n).getD F []) = (mvN L i l n).getD F [] := List.take_of_length_le (Nat.le_refl _)
            have hMl := mvN_rl (L := L) (k := i) l n F
            have hr2 : ∀ a b : Int, (∀ row ∈ [[D.v (Value.int IntKind.i64 a), D.v (Value.int IntKind.i64 b)]], row.length = 2) = True := fun a b => by simp
            have hst := fun m => ownRowsV_setK (n := i) (f := F) (g := fun r => ((mvN L i l n).getD r []).length) m hF
            have hkf := ownRowsV_killF (n := i) (f := F) (g := fun r => ((mvN L i l n).getD r []).length) hF
            have hk1 : (ownRowsV i fun r => ((mvN L i l n).getD r []).length).map (D.killL 13021) = ownRowsV i fun r => ((mvN L i l n).getD r []).length := ownRowsV_kill (by decide)
            refine awp_drawG ttok ((0, none) :: (1, none) :: (2, none) :: (3, none) :: (4, none) :: (5, none) :: (6, none) :: (7, none) :: (8, none) :: (9, none) :: (10, none) :: (11, none) :: (12, none) :: (13, none) :: (14, none) :: (15, none) :: (16, none) :: (17, none) :: (18, none) :: (19, none) :: (20, none) :: (21, some [0, 1, 2, 3, 4, 5, 6, 7]) :: (22, some [0, 1, 2]) :: (23, none) :: (24, some []) :: []) ([]) ([]) (by decide +kernel) fun O hO => ?_; simp only [OpsAre, Nat.reduceAdd, and_true, List.toList_toArray, List.append_eq, List.cons_append, List.nil_append] at hO; simp (maxSteps := 4000000) only [↓reduceIte, Nat.reduceLT, Nat.reduceEqDiff, reduceCtorEq, Nat.reduceAdd, Nat.reduceMul, Int.reduceLE, Int.reduceLT, Int.reduceToNat, Nat.reduceLeDiff, Nat.reduceSub, Int.reduceEq, Nat.reduceBEq, List.replicate, List.set, evB, tyA, hO, tri_len, hgt, lowW255, tmodN, mF, mT, hCe, wF, wT, wL, wC, wC2, z1', z2', z3', z4', ownRowsV_len, hg, lk_fam hF, mvs_len, mvs_take, hMt, hMr, hr2, hst, mvs_row, hk1, hkf]; (repeat (with_reducible refine And.intro ?_ ?_; exact sdX))
            have hag := fun r => addM_get (M := mvN L i l n) (f := F) (by rw [(hokm n).len]; exact hF) ((C : Int) - 1) (T : Int) r
            have hlen : (fun r => if r = F then ((mvN L i l n).getD F []).length + 1 else ((mvN L i l n).getD r []).length) = fun r => ((mvN L i l (n + 1)).getD r []).length := by
              funext r
              rw [hstep, hag]
              split
              · simp
              · rfl
            (repeat (first | refine awp_seq ?_ | refine awp_block ?_ | ((first | refine awp_skip ?_ | refine awp_exit ?_ | refine awp_reg ttok ?_ | (refine awp_draw ttok ?dr_calm ?_; (case dr_calm => decide +kernel)) | refine awp_condM ?_); simp (maxSteps := 4000000) only [↓reduceIte, Nat.reduceLT, Nat.reduceEqDiff, reduceCtorEq, Nat.reduceAdd, Nat.reduceMul, Int.reduceLE, Int.reduceLT, Int.reduceToNat, Nat.reduceLeDiff, Nat.reduceSub, Int.reduceEq, Nat.reduceBEq, List.replicate, List.set, evB, tyA, hw, hlen]; (repeat (with_reducible refine And.intro ?_ ?_; exact sdX)); (with_reducible first | refine awp_id ?_ | refine id_call ?_ | refine id_and ?_ | refine id_ex ?_ | refine id_all ?_ | refine id_nat ?_ | refine id_le ?_))))
            refine ⟨n + 1, by omega, by omega, mkS_le rfl ?_ ?_⟩
            · exact evX
            · simp (maxSteps := 4000000) only [↓reduceIte, Nat.reduceLT, Nat.reduceEqDiff, reduceCtorEq, Nat.reduceAdd, Nat.reduceMul, Int.reduceLE, Int.reduceLT, Int.reduceToNat, Nat.reduceLeDiff, Nat.reduceSub, Int.reduceEq, Nat.reduceBEq, List.replicate, List.set, evB, knowsH_app, knowsH_fam, hlen]
              intro r hr
              rw [hstep, hag]
              by_cases hrF : r = F
              · rw [if_pos hrF, if_pos hrF]
              · rw [if_neg hrF, if_neg hrF, if_neg hrF, lk_fam hr]; rfl
          · obtain rfl : n = min l.length 20 := by omega
            have hfin : mvN L i l (min l.length 20) = movN L i l := rfl
            obtain ⟨n, hn0⟩ : ∃ n, n = min l.length 20 := ⟨_, rfl⟩
            rw [← hn0] at hfin ⊢
            have hcases : decide ((n : Int) < (l.length : Int)) = false ∨ (decide ((n : Int) < (l.length : Int)) = true ∧ decide ((n : Int) < 20) = false) := by
              simp only [decide_eq_false_iff_not, decide_eq_true_eq]
              omega
            rw [hfin]
            have hokN := movN_ok (L := L) hk.1 l
            generalize movN L i l = M at *
            obtain ⟨pp, hpe, hpp⟩ := purLL_ownV (h := lk ([(4001, { sz := 1, rows := ownRowsV i fun r => (M.getD r []).length, flat := false }), (1000, { sz := 2, rows := [[i64 z0, i64 z1]], flat := false }), (1001, { sz := 4, rows := [[i64 L, i64 0, .own 4003 0 i, .own 4001 0 i]], flat := false }), (4003, { sz := 1, rows := bos (finD fin i) })] ++ fam i fun r => { sz := 2, rows := mvs (M.getD r []) })) (len := fun r => (M.getD r []).length) (g := fun r => { sz := 2, rows := mvs (M.getD r []) }) (List.range i) (fun r hr => ⟨by
                have hr' := List.mem_range.1 hr
                rw [lk_app, lk_none (by simp)]
                exact lk_fam hr', rfl, mvs_len _⟩)
            have hrows : ((List.range i).map fun r => [D.sl false (mvs (M.getD r []))]) = mmv M := by
              apply List.ext_getElem
              · simp [mmv, hokN.len]
              · intro r h1 h2
                have : r < M.length := by simpa [mmv] using h2
                simp [mmv, List.getD, this]
            refine awp_pureO 4001 (o := { sz := 1, rows := ownRowsV i fun r => (M.getD r []).length, flat := false }) evX rfl hpe hpp (by simp) ?_
            simp only [hrows]
            have hcon : ∀ k, decide (k < 90000) = true → ((List.range i).map (· + 90000)).contains k = false := fun k h => map90000_has h
            have c1 := hcon 1000 rfl
            have c2 := hcon 1001 rfl
            have c3 := hcon 4001 rfl
            have c4 := hcon 4003 rfl
            have hfl2 := finD_len fin i
            have hft : List.take i (finD fin i) = finD fin i := List.take_of_length_le (by omega)
            have hil := hokN.len
            have hit : List.take i M = M := List.take_of_length_le (by omega)
            refine awp_at 99 [(0, _), (5, _), (6, _), (7, _), (9, _)] [(1000, _), (1001, _), (4001, _), (4003, _)] rfl (by (first | simp (maxSteps := 4000000) only [↓reduceIte, Nat.reduceLT, Nat.reduceEqDiff, reduceCtorEq, Nat.reduceAdd, Nat.reduceMul, Int.reduceLE, Int.reduceLT, Int.reduceToNat, Nat.reduceLeDiff, Nat.reduceSub, Int.reduceEq, Nat.reduceBEq, List.replicate, List.set, evB, c1, c2, c3, c4] | skip); exact ⟨rfl, rfl, rfl, rfl, rfl⟩) (by (first | simp (maxSteps := 4000000) only [↓reduceIte, Nat.reduceLT, Nat.reduceEqDiff, reduceCtorEq, Nat.reduceAdd, Nat.reduceMul, Int.reduceLE, Int.reduceLT, Int.reduceToNat, Nat.reduceLeDiff, Nat.reduceSub, Int.reduceEq, Nat.reduceBEq, List.replicate, List.set, evB, c1, c2, c3, c4] | skip); exact ⟨rfl, rfl, rfl, rfl⟩) ?_
            refine awp_pureO 1001 (by simp (maxSteps := 4000000) only [↓reduceIte, Nat.reduceLT, Nat.reduceEqDiff, reduceCtorEq, Nat.reduceAdd, Nat.reduceMul, Int.reduceLE, Int.reduceLT, Int.reduceToNat, Nat.reduceLeDiff, Nat.reduceSub, Int.reduceEq, Nat.reduceBEq, List.replicate, List.set, evB]; rfl) rfl (by simp (maxSteps := 4000000) only [↓reduceIte, Nat.reduceLT, Nat.reduceEqDiff, reduceCtorEq, Nat.reduceAdd, Nat.reduceMul, Int.reduceLE, Int.reduceLT, Int.reduceToNat, Nat.reduceLeDiff, Nat.reduceSub, Int.reduceEq, Nat.reduceBEq, List.replicate, List.set, evB, bos_len, bos_take, mmv_len, mmv_take, hfl2, hft, hil, hit]; rfl) (by simp (maxSteps := 4000000) only [↓reduceIte, Nat.reduceLT, Nat.reduceEqDiff, reduceCtorEq, Nat.reduceAdd, Nat.reduceMul, Int.reduceLE, Int.reduceLT, Int.reduceToNat, Nat.reduceLeDiff, Nat.reduceSub, Int.reduceEq, Nat.reduceBEq, List.replicate, List.set, evB, bos_len, mmv_len, hfl2, hil]) (by decide) ?_
            refine awp_at 99 [(0, _), (5, _), (6, _), (7, _), (9, _)] [(1000, _), (1001, _)] rfl (by (first | simp (maxSteps := 4000000) only [↓reduceIte, Nat.reduceLT, Nat.reduceEqDiff, reduceCtorEq, Nat.reduceAdd, Nat.reduceMul, Int.reduceLE, Int.reduceLT, Int.reduceToNat, Nat.reduceLeDiff, Nat.reduceSub, Int.reduceEq, Nat.reduceBEq, List.replicate, List.set, evB] | skip); exact ⟨rfl, rfl, rfl, rfl, rfl⟩) (by (first | simp (maxSteps := 4000000) only [↓reduceIte, Nat.reduceLT, Nat.reduceEqDiff, reduceCtorEq, Nat.reduceAdd, Nat.reduceMul, Int.reduceLE, Int.reduceLT, Int.reduceToNat, Nat.reduceLeDiff, Nat.reduceSub, Int.reduceEq, Nat.reduceBEq, List.replicate, List.set, evB] | skip); exact ⟨rfl, rfl⟩) ?_
            have wS : IntKind.i64.wrap ((startD z1 : Nat) : Int) = ((startD z1 : Nat) : Int) := i64_in (by omega) (by omega)
            have z3' : (((i : Nat) : Int) = 0) = False := eq_false (by omega)
            have z1' : (((i : Nat) : Int) == 0) = false := by simp; omega
            rcases hcases with q | ⟨q1, q2⟩
            · (repeat (first | refine awp_seq ?_ | refine awp_block ?_ | ((first | refine awp_skip ?_ | refine awp_exit ?_ | refine awp_reg ttok ?_ | (refine awp_draw ttok ?dr_calm ?_; (case dr_calm => decide +kernel)) | refine awp_condM ?_); simp (maxSteps := 4000000) only [↓reduceIte, Nat.reduceLT, Nat.reduceEqDiff, reduceCtorEq, Nat.reduceAdd, Nat.reduceMul, Int.reduceLE, Int.reduceLT, Int.reduceToNat, Nat.reduceLeDiff, Nat.reduceSub, Int.reduceEq, Nat.reduceBEq, List.replicate, List.set, evB, tyA, q, tri_len, lowW255, tmodN, hsw, wS, z1', z3']; (repeat (with_reducible refine And.intro ?_ ?_; exact sdX)); (with_reducible first | refine awp_id ?_ | refine id_call ?_ | refine id_and ?_ | refine id_ex ?_ | refine id_all ?_ | refine id_nat ?_ | refine id_le ?_))))
              exact awp_ret (endsV [] (.inr rfl) (by simp (maxSteps := 4000000) only [↓reduceIte, Nat.reduceLT, Nat.reduceEqDiff, reduceCtorEq, Nat.reduceAdd, Nat.reduceMul, Int.reduceLE, Int.reduceLT, Int.reduceToNat, Nat.reduceLeDiff, Nat.reduceSub, Int.reduceEq, Nat.reduceBEq, List.replicate, List.set, evB, tyA, nfaD]; rfl) trivial evX)
            · (repeat (first | refine awp_seq ?_ | refine awp_block ?_ | ((first | refine awp_skip ?_ | refine awp_exit ?_ | refine awp_reg ttok ?_ | (refine awp_draw ttok ?dr_calm ?_; (case dr_calm => decide +kernel)) | refine awp_condM ?_); simp (maxSteps := 4000000) only [↓reduceIte, Nat.reduceLT, Nat.reduceEqDiff, reduceCtorEq, Nat.reduceAdd, Nat.reduceMul, Int.reduceLE, Int.reduceLT, Int.reduceToNat, Nat.reduceLeDiff, Nat.reduceSub, Int.reduceEq, Nat.reduceBEq, List.replicate, List.set, evB, tyA, q1, q2, tri_len, lowW255, tmodN, hsw, wS, z1', z3']; (repeat (with_reducible refine And.intro ?_ ?_; exact sdX)); (with_reducible first | refine awp_id ?_ | refine id_call ?_ | refine id_and ?_ | refine id_ex ?_ | refine id_all ?_ | refine id_nat ?_ | refine id_le ?_))))
              exact awp_ret (endsV [] (.inr rfl) (by simp (maxSteps := 4000000) only [↓reduceIte, Nat.reduceLT, Nat.reduceEqDiff, reduceCtorEq, Nat.reduceAdd, Nat.reduceMul, Int.reduceLE, Int.reduceLT, Int.reduceToNat, Nat.reduceLeDiff, Nat.reduceSub, Int.reduceEq, Nat.reduceBEq, List.replicate, List.set, evB, tyA, nfaD]; rfl) trivial evX)
theorem take_snoc {α : Type} {l : List α} {k : Nat} (hk : k < l.length) (d : α) : l.take (k + 1) = l.take k ++ [l.getD k d] := by
  rw [List.take_add_one, List.getElem?_eq_getElem hk]; simp [List.getD, List.getElem?_eq_getElem hk]
end Go.Proofs.Ytbhjmioegdgpnaa
