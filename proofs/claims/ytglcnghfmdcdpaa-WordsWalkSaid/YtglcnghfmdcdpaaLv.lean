import Derived.Test.YtglcnghfmdcdpaaFin
import Derived.Test.YtglcnghfmdcdpaaTy
set_option linter.unusedSimpArgs false
set_option linter.unusedVariables false
namespace Go.Proofs.Ytglcnghfmdcdpaa
open Go.Ab
def swp1 (N : List (List Int)) (o : List Bool) (i : Nat) : List Bool := if ((N.getD i []).any fun s => decide (s ≥ 0) && o.getD s.toNat false) = true then o.set i true else o
def swpS (N : List (List Int)) (o : List Bool) : Nat → List Bool
  | 0 => o
  | i + 1 => swp1 N (swpS N o i) i
def swp (N : List (List Int)) (o : List Bool) : List Bool := swpS N o N.length
def swpI (N : List (List Int)) (o : List Bool) : Nat → List Bool
  | 0 => o
  | r + 1 => swp N (swpI N o r)
def liveL (F : List Bool) (N : List (List Int)) : List Bool := swpI N F F.length
theorem swp1_len (N : List (List Int)) (o : List Bool) (i : Nat) : (swp1 N o i).length = o.length := by
  unfold swp1; split <;> simp
theorem swpS_len (N : List (List Int)) (o : List Bool) : ∀ i, (swpS N o i).length = o.length
  | 0 => rfl
  | i + 1 => by rw [swpS, swp1_len, swpS_len N o i]
theorem swp_len (N : List (List Int)) (o : List Bool) : (swp N o).length = o.length := swpS_len N o _
theorem swpI_len (N : List (List Int)) (o : List Bool) : ∀ r, (swpI N o r).length = o.length
  | 0 => rfl
  | r + 1 => by rw [swpI, swp_len, swpI_len N o r]
def bleB (o p : List Bool) : Prop := o.length = p.length ∧ ∀ j, o.getD j false = true → p.getD j false = true
theorem bleB_refl (o : List Bool) : bleB o o := ⟨rfl, fun _ h => h⟩
theorem bleB_trans {o p q : List Bool} (h : bleB o p) (k : bleB p q) : bleB o q := ⟨h.1.trans k.1, fun j g => k.2 j (h.2 j g)⟩
theorem set_ble (o : List Bool) (i : Nat) : bleB o (o.set i true) := by
  refine ⟨by simp, fun j h => ?_⟩
  simp only [List.getD, List.getElem?_set] at h ⊢
  split
  · split
    · rfl
    · rename_i h1 h2
      rw [List.getElem?_eq_none (by omega)] at h; cases h
  · exact h
theorem swp1_ble (N : List (List Int)) (o : List Bool) (i : Nat) : bleB o (swp1 N o i) := by
  unfold swp1; split
  · exact set_ble o i
  · exact bleB_refl o
theorem swpS_ble (N : List (List Int)) (o : List Bool) : ∀ i, bleB o (swpS N o i)
  | 0 => bleB_refl o
  | i + 1 => bleB_trans (swpS_ble N o i) (swp1_ble N _ i)
theorem swp_ble (N : List (List Int)) (o : List Bool) : bleB o (swp N o) := swpS_ble N o _
theorem swpI_ble (N : List (List Int)) (o : List Bool) : ∀ r, bleB o (swpI N o r)
  | 0 => bleB_refl o
  | r + 1 => bleB_trans (swpI_ble N o r) (swp_ble N _)
theorem ble_count : ∀ {o p : List Bool}, bleB o p → o.count true ≤ p.count true ∧ (o.count true = p.count true → o = p)
  | [], [], _ => ⟨Nat.le_refl _, fun _ => rfl⟩
  | [], _ :: _, h => by have := h.1; simp at this
  | _ :: _, [], h => by have := h.1; simp at this
  | a :: o, b :: p, h => by
    have h1 : bleB o p := ⟨by have := h.1; simpa using this, fun j g => by have := h.2 (j + 1); simpa using this (by simpa using g)⟩
    obtain ⟨g1, g2⟩ := ble_count h1
    have h0 : a = true → b = true := by have := h.2 0; simpa using this
    cases a <;> cases b
    · simp only [List.count_cons]; refine ⟨by simpa using g1, fun e => ?_⟩
      rw [g2 (by simpa using e)]
    · simp only [List.count_cons]
      refine ⟨by simp; omega, fun e => ?_⟩
      simp at e; omega
    · cases h0 rfl
    · simp only [List.count_cons]; refine ⟨by simpa using g1, fun e => ?_⟩
      rw [g2 (by simpa using e)]
theorem swpI_stable {N : List (List Int)} {o : List Bool} {r : Nat} (h : swp N (swpI N o r) = swpI N o r) : ∀ k, swpI N o (r + k) = swpI N o r
  | 0 => rfl
  | k + 1 => by rw [← Nat.add_assoc, swpI, swpI_stable h k, h]
theorem swpI_grows {N : List (List Int)} {o : List Bool} : ∀ r, (∃ q, q ≤ r ∧ swp N (swpI N o q) = swpI N o q) ∨ r + 1 ≤ (swpI N o (r + 1)).count true
  | 0 => by
    by_cases h : swp N (swpI N o 0) = swpI N o 0
    · exact .inl ⟨0, Nat.le_refl _, h⟩
    · right
      have hb := ble_count (swp_ble N (swpI N o 0))
      have : (swpI N o 0).count true ≠ (swp N (swpI N o 0)).count true := fun e => h (hb.2 e).symm
      have e : swpI N o (0 + 1) = swp N (swpI N o 0) := rfl
      rw [e]; omega
  | r + 1 => by
    rcases swpI_grows (N := N) (o := o) r with ⟨q, h1, h2⟩ | h
    · exact .inl ⟨q, by omega, h2⟩
    · by_cases hs : swp N (swpI N o (r + 1)) = swpI N o (r + 1)
      · exact .inl ⟨r + 1, Nat.le_refl _, hs⟩
      · right
        have hb := ble_count (swp_ble N (swpI N o (r + 1)))
        have : (swpI N o (r + 1)).count true ≠ (swp N (swpI N o (r + 1))).count true := fun e => hs (hb.2 e).symm
        have e : swpI N o (r + 1 + 1) = swp N (swpI N o (r + 1)) := rfl
        rw [e]; omega
theorem liveL_stable (F : List Bool) (N : List (List Int)) : swp N (liveL F N) = liveL F N := by
  have key : ∃ q, q ≤ F.length ∧ swp N (swpI N F q) = swpI N F q := by
    rcases swpI_grows (N := N) (o := F) F.length with h | h
    · exact h
    · exfalso
      have h1 := List.count_le_length (a := true) (l := swpI N F (F.length + 1))
      rw [swpI_len] at h1; omega
  obtain ⟨q, h1, h2⟩ := key
  have := swpI_stable h2 (F.length - q)
  rw [show q + (F.length - q) = F.length by omega] at this
  unfold liveL
  rw [this]; exact h2
theorem liveL_of {F : List Bool} {N : List (List Int)} {r : Nat} (h : swp N (swpI N F r) = swpI N F r) : swpI N F r = liveL F N := by
  have h2 := liveL_stable F N
  rcases Nat.le_total r F.length with q | q
  · have := swpI_stable h (F.length - r)
    rw [show r + (F.length - r) = F.length by omega] at this
    exact this.symm
  · have := swpI_stable (r := F.length) h2 (r - F.length)
    rw [show F.length + (r - F.length) = r by omega] at this
    exact this
theorem liveL_len (F : List Bool) (N : List (List Int)) : (liveL F N).length = F.length := swpI_len N F _
theorem liveL_fin {F : List Bool} {N : List (List Int)} {s : Nat} (h : F.getD s false = true) : (liveL F N).getD s false = true := (swpI_ble N F _).2 s h
theorem swpS_eq {N : List (List Int)} {o : List Bool} (h : swp N o = o) : ∀ i, i ≤ N.length → swpS N o i = o := by
  intro i hi
  have h1 : bleB o (swpS N o i) := swpS_ble N o i
  have h2 : ∀ k, bleB (swpS N o i) (swpS N o (i + k)) := fun k => by
    induction k with
    | zero => exact bleB_refl _
    | succ k ih => exact bleB_trans ih (swp1_ble N _ _)
  have h3 := h2 (N.length - i)
  rw [show i + (N.length - i) = N.length by omega, show swpS N o N.length = o from h] at h3
  have c1 := ble_count h1
  have c2 := ble_count h3
  exact (c1.2 (by omega)).symm
theorem liveL_step {F : List Bool} {N : List (List Int)} {s : Nat} {t : Int} (hs : s < N.length) (hl : N.length = F.length) (hm : t ∈ N.getD s []) (h0 : 0 ≤ t) (ht : (liveL F N).getD t.toNat false = true) : (liveL F N).getD s false = true := by
  have h1 := swpS_eq (liveL_stable F N) s (by omega)
  have h2 := swpS_eq (liveL_stable F N) (s + 1) (by omega)
  rw [swpS, h1, swp1, if_pos (by rw [List.any_eq_true]; exact ⟨t, hm, by rw [ht, Bool.and_true]; simpa using h0⟩)] at h2
  rw [← h2]
  have hsl : s < (liveL F N).length := by rw [liveL_len]; omega
  simp [List.getD, List.getElem?_set, hsl]
inductive Lv (F : List Bool) (N : List (List Int)) : Nat → Prop
  | fin {s : Nat} (h : F.getD s false = true) : Lv F N s
  | step {s : Nat} {t : Int} (hm : t ∈ N.getD s []) (h0 : 0 ≤ t) (h : Lv F N t.toNat) : Lv F N s
theorem swp1_lv {F : List Bool} {N : List (List Int)} {o : List Bool} {i : Nat} (h : ∀ j, o.getD j false = true → Lv F N j) : ∀ j, (swp1 N o i).getD j false = true → Lv F N j := by
  intro j hj
  unfold swp1 at hj
  split at hj
  · rename_i ha
    by_cases hij : i = j
    · subst hij
      obtain ⟨t, ht, hp⟩ := List.any_eq_true.1 ha
      simp only [Bool.and_eq_true, decide_eq_true_eq] at hp
      exact .step ht hp.1 (h _ hp.2)
    · simp only [List.getD, List.getElem?_set_ne hij] at hj
      exact h j hj
  · exact h j hj
theorem swpS_lv {F : List Bool} {N : List (List Int)} {o : List Bool} (h : ∀ j, o.getD j false = true → Lv F N j) : ∀ i j, (swpS N o i).getD j false = true → Lv F N j
  | 0 => h
  | i + 1 => swp1_lv (swpS_lv h i)
theorem swpI_lv {F : List Bool} {N : List (List Int)} : ∀ r j, (swpI N F r).getD j false = true → Lv F N j
  | 0 => fun _ h => .fin h
  | r + 1 => swpS_lv (swpI_lv r) _
theorem liveL_lv {F : List Bool} {N : List (List Int)} {s : Nat} (h : (liveL F N).getD s false = true) : Lv F N s := swpI_lv _ s h
def lowB (m : Nat) (c : Int) : Nat := (BitVec.ofInt IntKind.i64.bits c &&& BitVec.ofInt IntKind.i64.bits (m : Int)).toNat
theorem lowB_le (m : Nat) (c : Int) (hm : m ≤ 2147483647) : lowB m c ≤ m := by
  rw [lowB, BitVec.toNat_and]
  refine Nat.le_trans Nat.and_le_right ?_
  simp only [BitVec.toNat_ofInt]
  have : ((m : Int) % ((2 ^ IntKind.i64.bits : Nat) : Int)).toNat = m % 2 ^ IntKind.i64.bits := by
    rw [← Int.natCast_emod]; rfl
  rw [this]
  exact Nat.mod_le _ _
theorem lowB_wrap (m : Nat) (c : Int) (hm : m ≤ 2147483647) : IntKind.i64.wrap ((BitVec.ofInt IntKind.i64.bits c &&& BitVec.ofInt IntKind.i64.bits (m : Int)).toNat : Int) = (lowB m c : Int) := by
  have h := lowB_le m c hm
  exact i64_in (by omega) (by unfold lowB at h; omega)
theorem lowW1 (c : Int) : IntKind.i64.wrap ((BitVec.ofInt IntKind.i64.bits c &&& BitVec.ofInt IntKind.i64.bits 1).toNat : Int) = (lowB 1 c : Int) := lowB_wrap 1 c (by decide)
theorem lowW3 (c : Int) : IntKind.i64.wrap ((BitVec.ofInt IntKind.i64.bits c &&& BitVec.ofInt IntKind.i64.bits 3).toNat : Int) = (lowB 3 c : Int) := lowB_wrap 3 c (by decide)
theorem lowW7 (c : Int) : IntKind.i64.wrap ((BitVec.ofInt IntKind.i64.bits c &&& BitVec.ofInt IntKind.i64.bits 7).toNat : Int) = (lowB 7 c : Int) := lowB_wrap 7 c (by decide)
theorem lowW255 (c : Int) : IntKind.i64.wrap ((BitVec.ofInt IntKind.i64.bits c &&& BitVec.ofInt IntKind.i64.bits 255).toNat : Int) = (lowB 255 c : Int) := lowB_wrap 255 c (by decide)
theorem tmodN (a b : Nat) : Int.tmod (a : Int) (b : Int) = ((a % b : Nat) : Int) := rfl
def iis (l : List (List Int)) : List (List D) := l.map fun x => [.sl false (ints x)]
theorem iis_len (l : List (List Int)) : (iis l).length = l.length := by simp [iis]
theorem iis_get {l : List (List Int)} {i : Nat} (h : i < l.length) : (iis l).getD i [] = [.sl false (ints (l.getD i []))] := by
  simp [iis, List.getD, List.getElem?_eq_getElem h]
theorem iis_take (l : List (List Int)) (k : Nat) : (iis l).take k = iis (l.take k) := by simp [iis]
def bos (l : List Bool) : List (List D) := l.map fun b => [bo b]
theorem bos_len (l : List Bool) : (bos l).length = l.length := by simp [bos]
theorem bos_row (l : List Bool) : (∀ row ∈ bos l, row.length = 1) = True := by
  simp only [bos, List.mem_map, eq_iff_iff, iff_true]
  rintro row ⟨x, _, rfl⟩; rfl
theorem bos_get {l : List Bool} {i : Nat} (h : i < l.length) : (bos l).getD i [] = [bo (l.getD i false)] := by
  simp [bos, List.getD, List.getElem?_eq_getElem h]
theorem bos_app (l m : List Bool) : bos l ++ bos m = bos (l ++ m) := by simp [bos]
theorem bos_take (l : List Bool) (k : Nat) : (bos l).take k = bos (l.take k) := by simp [bos]
theorem bos_set (l : List Bool) (j : Nat) (b : Bool) : (bos l).set j [bo b] = bos (l.set j b) := by simp [bos]
theorem bos_nil (l : List Bool) : (bos l = []) = (l = []) := by simp [bos]
def labD (z : Int) : Nat := lowB 3 z + lowB 1 (z.fdiv (2 ^ min 2 IntKind.i64.bits))
def numD (z : Int) : Nat := lowB 7 z + 1
def startD (z : Int) : Nat := lowB 255 (z.fdiv (2 ^ min 3 IntKind.i64.bits)) % numD z
theorem labD_le (z : Int) : labD z ≤ 4 := by
  have h1 := lowB_le 3 z (by decide)
  have h2 := lowB_le 1 (z.fdiv (2 ^ min 2 IntKind.i64.bits)) (by decide)
  unfold labD; omega
theorem numD_le (z : Int) : 1 ≤ numD z ∧ numD z ≤ 8 := by
  have h1 := lowB_le 7 z (by decide)
  unfold numD; omega
theorem startD_lt (z : Int) : startD z < numD z := Nat.mod_lt _ (by have := numD_le z; omega)
def finD (f : Int) (n : Nat) : List Bool := (List.range n).map fun i => ((lowB 1 (f.fdiv (2 ^ min i IntKind.i64.bits)) : Int) == 1)
theorem finD_len (f : Int) (n : Nat) : (finD f n).length = n := by simp [finD]
theorem finD_succ (f : Int) (n : Nat) : finD f (n + 1) = finD f n ++ [((lowB 1 (f.fdiv (2 ^ min n IntKind.i64.bits)) : Int) == 1)] := by simp [finD, List.range_succ]
def negs (n : Nat) : List Int := List.replicate n (-1)
def nx0 (L n : Nat) : List (List Int) := List.replicate n (negs L)
def setN (N : List (List Int)) (f c : Nat) (t : Int) : List (List Int) := N.set f ((N.getD f []).set c t)
def mvF (k : Nat) (x : Int × Int × Int) : Nat := lowB 255 x.1 % k
def mvT (k : Nat) (x : Int × Int × Int) : Nat := lowB 255 x.2.1 % k
def mvC (L : Nat) (x : Int × Int × Int) : Nat := lowB 255 x.2.2 % L
def nxD (L k : Nat) (l : List (Int × Int × Int)) : Nat → List (List Int)
  | 0 => nx0 L k
  | i + 1 => setN (nxD L k l i) (mvF k (l.getD i (0, 0, 0))) (mvC L (l.getD i (0, 0, 0))) (mvT k (l.getD i (0, 0, 0)))
structure NOk (L k : Nat) (N : List (List Int)) : Prop where
  len : N.length = k
  row : ∀ r ∈ N, r.length = L ∧ ∀ t ∈ r, -1 ≤ t ∧ t < (k : Int)
theorem NOk.get {L k : Nat} {N : List (List Int)} (h : NOk L k N) {s : Nat} (hs : s < k) : (N.getD s []).length = L ∧ ∀ t ∈ N.getD s [], -1 ≤ t ∧ t < (k : Int) := by
  have hl := h.len
  have e : N.getD s [] = N[s]'(by omega) := by simp [List.getD, List.getElem?_eq_getElem (show s < N.length by omega)]
  rw [e]; exact h.row _ (List.getElem_mem _)
theorem nx0_ok (L : Nat) {k : Nat} (hk : 1 ≤ k) : NOk L k (nx0 L k) := by
  refine ⟨by simp [nx0], fun r hr => ?_⟩
  rw [List.eq_of_mem_replicate hr]
  refine ⟨by simp [negs], fun t ht => ?_⟩
  rw [List.eq_of_mem_replicate ht]; omega
theorem setN_ok {L k : Nat} {N : List (List Int)} (h : NOk L k N) {f c t : Nat} (hf : f < k) (ht : t < k) : NOk L k (setN N f c t) := by
  refine ⟨by simp [setN, h.len], fun r hr => ?_⟩
  rcases List.mem_or_eq_of_mem_set hr with q | q
  · exact h.row r q
  · obtain ⟨g1, g2⟩ := h.get hf
    rw [q]
    refine ⟨by simpa using g1, fun u hu => ?_⟩
    rcases List.mem_or_eq_of_mem_set hu with q2 | q2
    · exact g2 u q2
    · rw [q2]; omega
theorem nxD_ok {L k : Nat} (hk : 1 ≤ k) (l : List (Int × Int × Int)) : ∀ i, NOk L k (nxD L k l i)
  | 0 => nx0_ok L hk
  | i + 1 => setN_ok (nxD_ok hk l i) (Nat.mod_lt _ hk) (Nat.mod_lt _ hk)
def nextD (L k : Nat) (l : List (Int × Int × Int)) : List (List Int) := nxD L k l (if L = 0 then 0 else min l.length 24)
theorem nextD_ok {L k : Nat} (hk : 1 ≤ k) (l : List (Int × Int × Int)) : NOk L k (nextD L k l) := nxD_ok hk l _
def toD (N : List (List Int)) (s k : Int) : Int := if s < 0 ∨ (N.length : Int) ≤ s ∨ k < 0 ∨ ((N.getD s.toNat []).length : Int) ≤ k then -1 else (N.getD s.toNat []).getD k.toNat 0
def runD (N : List (List Int)) : Int → List Int → Int
  | s, [] => s
  | s, k :: w => if s < 0 then s else runD N (toD N s k) w
def endsD (F : List Bool) (N : List (List Int)) (s : Int) (w : List Int) : Bool := decide (0 ≤ runD N s w) && F.getD (runD N s w).toNat false
def wordsL (L : Nat) : Nat → List (List Int)
  | 0 => [[]]
  | n + 1 => (wordsL L n).flatMap fun w => (List.range L).map fun (a : Nat) => w ++ [(a : Int)]
def uptoL (L : Nat) : Nat → List (List Int)
  | 0 => wordsL L 0
  | n + 1 => uptoL L n ++ wordsL L (n + 1)
theorem wordsL_mem {L : Nat} : ∀ {n : Nat} {w : List Int}, w ∈ wordsL L n ↔ w.length = n ∧ ∀ x ∈ w, 0 ≤ x ∧ x < (L : Int)
  | 0, w => by
    simp only [wordsL, List.mem_singleton]
    constructor
    · rintro rfl; simp
    · rintro ⟨h, _⟩; exact List.length_eq_zero_iff.1 h
  | n + 1, w => by
    simp only [wordsL, List.mem_flatMap, List.mem_map, List.mem_range]
    constructor
    · rintro ⟨v, hv, a, ha, rfl⟩
      obtain ⟨h1, h2⟩ := wordsL_mem.1 hv
      refine ⟨by simp [h1], fun x hx => ?_⟩
      rcases List.mem_append.1 hx with q | q
      · exact h2 x q
      · rw [List.mem_singleton.1 q]; omega
    · rintro ⟨h1, h2⟩
      have hne : w ≠ [] := by rintro rfl; simp at h1
      have e := List.dropLast_concat_getLast hne
      have hx := h2 _ (List.getLast_mem hne)
      refine ⟨w.dropLast, wordsL_mem.2 ⟨by simp [h1], fun x hx => h2 x (List.dropLast_subset _ hx)⟩, (w.getLast hne).toNat, by omega, ?_⟩
      rw [show (((w.getLast hne).toNat : Nat) : Int) = w.getLast hne by omega]; exact e
theorem uptoL_mem {L : Nat} : ∀ {n : Nat} {w : List Int}, w ∈ uptoL L n ↔ w.length ≤ n ∧ ∀ x ∈ w, 0 ≤ x ∧ x < (L : Int)
  | 0, w => by rw [uptoL, wordsL_mem]; simp
  | n + 1, w => by
    rw [uptoL, List.mem_append, wordsL_mem, uptoL_mem]
    constructor
    · rintro (⟨h1, h2⟩ | ⟨h1, h2⟩)
      · exact ⟨by omega, h2⟩
      · exact ⟨by omega, h2⟩
    · rintro ⟨h1, h2⟩
      rcases Nat.lt_or_ge n w.length with q | q
      · exact .inr ⟨by omega, h2⟩
      · exact .inl ⟨q, h2⟩
theorem toD_mem {N : List (List Int)} {s k : Int} (h : 0 ≤ toD N s k) : 0 ≤ s ∧ s.toNat < N.length ∧ toD N s k ∈ N.getD s.toNat [] := by
  unfold toD at h ⊢
  split at h
  · omega
  · rename_i hn
    refine ⟨by omega, by omega, ?_⟩
    rw [if_neg hn]
    have hc : k.toNat < (N.getD s.toNat []).length := by omega
    generalize N.getD s.toNat [] = r at hc ⊢
    simp [List.getD, List.getElem?_eq_getElem hc]
theorem toD_of {N : List (List Int)} {s : Nat} {t : Int} (hs : s < N.length) (ht : t ∈ N.getD s []) : ∃ k : Nat, k < (N.getD s []).length ∧ toD N s k = t := by
  obtain ⟨k, hk, rfl⟩ := List.getElem_of_mem ht
  refine ⟨k, hk, ?_⟩
  unfold toD
  rw [if_neg (by rw [Int.toNat_natCast]; omega), Int.toNat_natCast, Int.toNat_natCast]
  generalize N.getD s [] = r at hk ⊢
  simp [List.getD, List.getElem?_eq_getElem hk]
theorem runD_neg {N : List (List Int)} : ∀ {w : List Int} {s : Int}, s < 0 → runD N s w = s
  | [], s, _ => rfl
  | k :: w, s, h => by rw [runD, if_pos h]
theorem runD_app {N : List (List Int)} : ∀ {w : List Int} {s : Int} {k : Int}, runD N s (w ++ [k]) = if runD N s w < 0 then runD N s w else toD N (runD N s w) k
  | [], s, k => by by_cases h : s < 0 <;> simp [runD, h]
  | x :: w, s, k => by
    rw [List.cons_append, runD, runD]
    by_cases h : s < 0
    · rw [if_pos h, if_pos h, if_pos h]
    · rw [if_neg h, if_neg h, runD_app]
theorem lv_of_run {F : List Bool} {N : List (List Int)} : ∀ {w : List Int} {s : Int}, 0 ≤ s → endsD F N s w = true → Lv F N s.toNat
  | [], s, h0, h => by
    simp only [endsD, runD, Bool.and_eq_true] at h
    exact .fin h.2
  | k :: w, s, h0, h => by
    have hr : runD N s (k :: w) = runD N (toD N s k) w := by rw [runD, if_neg (by omega)]
    have h' : endsD F N (toD N s k) w = true := by unfold endsD at h ⊢; rw [hr] at h; exact h
    have ht : 0 ≤ toD N s k := by
      rcases Int.lt_or_le (toD N s k) 0 with q | q
      · simp only [endsD, runD_neg q, Bool.and_eq_true, decide_eq_true_eq] at h'
        omega
      · exact q
    exact .step (toD_mem ht).2.2 ht (lv_of_run ht h')
theorem run_of_lv {F : List Bool} {N : List (List Int)} (hl : F.length ≤ N.length) {s : Nat} (h : Lv F N s) : ∃ w, endsD F N s w = true := by
  induction h with
  | @fin s h => exact ⟨[], by simp only [endsD, runD, Int.toNat_natCast, h, Bool.and_true]; simp⟩
  | @step s t hm h0 h ih =>
    obtain ⟨w, hw⟩ := ih
    have hs : s < N.length := by
      rcases Nat.lt_or_ge s N.length with q | q
      · exact q
      · simp [List.getD, List.getElem?_eq_none q] at hm
    obtain ⟨k, _, hk⟩ := toD_of hs hm
    refine ⟨(k : Int) :: w, ?_⟩
    rw [show ((t.toNat : Nat) : Int) = t by omega] at hw
    unfold endsD at hw ⊢
    rw [runD, if_neg (by omega), hk]
    exact hw
theorem live_iff {F : List Bool} {N : List (List Int)} (hl : F.length = N.length) (hb : ∀ s, ∀ t ∈ N.getD s [], t < (N.length : Int)) {s : Nat} (hs : s < N.length) : (liveL F N).getD s false = true ↔ Lv F N s := by
  refine ⟨liveL_lv, fun h => ?_⟩
  induction h with
  | @fin s h => exact liveL_fin h
  | @step s t hm h0 h ih =>
    have := hb s t hm
    exact liveL_step hs hl.symm hm h0 (ih (by omega))
def fam (n : Nat) (g : Nat → AObj) : List (Nat × AObj) := (List.range n).map fun r => (r + 90000, g r)
def ownRows (n L : Nat) : List (List D) := (List.range n).map fun r => [D.own (r + 90000) 0 L]
theorem lk_none {α : Type} : ∀ {l : List (Nat × α)} {t : Nat}, (∀ x ∈ l, x.1 ≠ t) → lk l t = none
  | [], t, _ => rfl
  | (k, d) :: l, t, h => by
    rw [lk, if_neg (fun e => h (k, d) (by simp) e.symm)]
    exact lk_none fun x hx => h x (by simp [hx])
theorem lk_app {α : Type} : ∀ {l m : List (Nat × α)} {t : Nat}, lk (l ++ m) t = (match lk l t with | some d => some d | none => lk m t)
  | [], m, t => by simp [lk]
  | (k, d) :: l, m, t => by
    rw [List.cons_append, lk, lk]
    split
    · rfl
    · exact lk_app
theorem lk_fam {n : Nat} {g : Nat → AObj} {f : Nat} (h : f < n) : lk (fam n g) (f + 90000) = some (g f) := by
  induction n with
  | zero => omega
  | succ n ih =>
    rw [fam, List.range_succ, List.map_append, ← fam, lk_app]
    rcases Nat.lt_or_ge f n with q | q
    · rw [ih q]
    · have : f = n := by omega
      subst this
      rw [lk_none (by intro x hx; obtain ⟨r, hr, rfl⟩ := List.mem_map.1 hx; have := List.mem_range.1 hr; simp; omega)]
      simp [lk]
theorem lk_famO {n : Nat} {g : Nat → AObj} : lk (fam n g) (n + 90000) = none :=
  lk_none (by intro x hx; obtain ⟨r, hr, rfl⟩ := List.mem_map.1 hx; have := List.mem_range.1 hr; simp; omega)
theorem knowsH_app {st : St} : ∀ {l m : List (Nat × AObj)}, KnowsH st (l ++ m) = (KnowsH st l ∧ KnowsH st m)
  | [], m => by simp [KnowsH]
  | (k, d) :: l, m => by rw [List.cons_append, KnowsH, KnowsH, knowsH_app, and_assoc]
theorem knowsH_iff {st : St} : ∀ {l : List (Nat × AObj)}, KnowsH st l ↔ ∀ x ∈ l, st.heap x.1 = some x.2
  | [] => by simp [KnowsH]
  | (k, d) :: l => by simp [KnowsH, knowsH_iff]
theorem knowsH_fam {st : St} {n : Nat} {g : Nat → AObj} : KnowsH st (fam n g) = ∀ r, r < n → st.heap (r + 90000) = some (g r) := by
  rw [eq_iff_iff, knowsH_iff]
  simp [fam]
theorem ownRows_len (n L : Nat) : (ownRows n L).length = n := by simp [ownRows]
theorem ownRows_get {n L f : Nat} (h : f < n) : (ownRows n L).getD f [] = [D.own (f + 90000) 0 L] := by simp [ownRows, List.getD, h]
theorem ownRows_app (n L : Nat) : ownRows n L ++ [[D.own (n + 90000) 0 L]] = ownRows (n + 1) L := by simp [ownRows, List.range_succ]
theorem ownRows_take (n L : Nat) : (ownRows n L).take n = ownRows n L := List.take_of_length_le (by simp [ownRows])
theorem ownRows_row (n L : Nat) : (∀ row ∈ ownRows n L, row.length = 1) = True := by simp [ownRows]
theorem ownRows_kill {n L k : Nat} (h : decide (k < 90000) = true) : (ownRows n L).map (D.killL k) = ownRows n L := by
  have := of_decide_eq_true h
  simp only [ownRows, List.map_map]
  apply List.map_congr_left
  intro r _
  simp only [Function.comp, D.killL, D.kill]
  rw [if_neg (by omega)]
theorem ownRows_killB {n L k : Nat} (hn : n ≤ 1000000) (h : 50000000 ≤ k) : (ownRows n L).map (D.killL k) = ownRows n L := by
  simp only [ownRows, List.map_map]
  apply List.map_congr_left
  intro r hr
  have := List.mem_range.1 hr
  simp only [Function.comp, D.killL, D.kill]
  rw [if_neg (by omega)]
theorem ownRows_killO {n L : Nat} : (ownRows n L).map (D.killL (n + 90000)) = ownRows n L := by
  simp only [ownRows, List.map_map]
  apply List.map_congr_left
  intro r hr
  have := List.mem_range.1 hr
  simp only [Function.comp, D.killL, D.kill]
  rw [if_neg (by omega)]
theorem purLL_own {h : Nat → Option AObj} {L : Nat} {g : Nat → AObj} : ∀ (l : List Nat), (∀ r ∈ l, h (r + 90000) = some (g r) ∧ (g r).flat = true ∧ (g r).rows.length = L) →
    ∃ p, purLL (pur h 4) (l.map fun r => [D.own (r + 90000) 0 L]) = some (l.map (· + 90000), p, l.map fun r => [D.sl false (g r).rows]) ∧ p
  | [], _ => ⟨True, rfl, trivial⟩
  | r :: l, hg => by
    obtain ⟨p, e, hp⟩ := purLL_own (h := h) (L := L) (g := g) l fun r hr => hg r (by simp [hr])
    obtain ⟨h1, h2, h3⟩ := hg r (by simp)
    refine ⟨((0 + L ≤ (g r).rows.length) ∧ True) ∧ p, ?_, ⟨⟨by omega, trivial⟩, hp⟩⟩
    rw [List.map_cons, purLL, e]
    simp only [purL, pur, purB, h1, h2, if_true, List.nil_append, List.cons_append, List.map_cons, List.append_nil, List.drop_zero, List.take_of_length_le (Nat.le_of_eq h3)]
theorem map90000_has {l : List Nat} {k : Nat} (h : decide (k < 90000) = true) : (l.map (· + 90000)).contains k = false := by
  have := of_decide_eq_true h
  simp only [List.contains_eq_mem, List.mem_map, decide_eq_false_iff_not]
  rintro ⟨r, _, q⟩; omega
def tri (l : List (Int × Int × Int)) : List (List D) := l.map fun x => [i64 x.1, i64 x.2.1, i64 x.2.2]
theorem tri_len (l : List (Int × Int × Int)) : (tri l).length = l.length := by simp [tri]
theorem tri_get {l : List (Int × Int × Int)} {i : Nat} (h : i < l.length) : (tri l).getD i [] = [i64 (l.getD i (0, 0, 0)).1, i64 (l.getD i (0, 0, 0)).2.1, i64 (l.getD i (0, 0, 0)).2.2] := by
  simp [tri, List.getD, List.getElem?_eq_getElem h]
def negP (L j : Nat) : List Int := List.replicate j (-1) ++ List.replicate (L - j) 0
theorem negP_zero (L : Nat) : negP L 0 = List.replicate L 0 := by simp [negP]
theorem negP_all (L : Nat) : negP L L = negs L := by simp [negP, negs]
theorem negP_len {L j : Nat} (h : j ≤ L) : (negP L j).length = L := by simp [negP]; omega
theorem negP_set {L j : Nat} (h : j < L) : (negP L j).set j (-1) = negP L (j + 1) := by
  rw [negP, List.set_append_right _ _ (by simp), List.length_replicate, Nat.sub_self, show L - j = (L - (j + 1)) + 1 by omega, List.replicate_succ, List.set_cons_zero, negP, List.replicate_succ', List.append_assoc]; rfl
def dfaD (L s : Nat) (F : List Bool) (N : List (List Int)) : D := .agg [i64 L, i64 s, .sl false (bos F), .sl false (iis N)]
set_option maxRecDepth 20000 in
set_option maxHeartbeats 16000000 in
theorem c_Dfa (f : Bool) (l : List (Int × Int × Int)) (fin z0 z1 : Int) (hl : l.length ≤ 9223372036854775807) : Contract Try.prog 7 [.sl f (tri l), i64 fin, .agg [i64 z0, i64 z1]] (dfaD (labD z0) (startD z1) (finD fin (numD z1)) (nextD (labD z0) (numD z1) l)) [] := by
  refine contract_of_awpV ttok (rs := [.cell 6 28]) Try.func7 rfl Try.ntmps7 (by simp) rfl fun E => ?_
  have hL := labD_le z0
  have hk := numD_le z1
  have hLw : IntKind.i64.wrap ((lowB 3 z0 : Int) + (lowB 1 (z0.fdiv (2 ^ min 2 IntKind.i64.bits)) : Int)) = (labD z0 : Int) := by
    have := labD_le z0
    unfold labD at this ⊢
    rw [i64_in (by omega) (by omega)]; simp
  have hkw : IntKind.i64.wrap ((lowB 7 z1 : Int) + 1) = (numD z1 : Int) := by
    unfold numD at hk ⊢
    exact i64_in (by omega) (by omega)
  (repeat (first | refine awp_seq ?_ | refine awp_block ?_ | ((first | refine awp_skip ?_ | refine awp_exit ?_ | refine awp_reg ttok ?_ | (refine awp_draw ttok ?dr_calm ?_; (case dr_calm => decide +kernel)) | refine awp_condM ?_); simp (maxSteps := 4000000) only [↓reduceIte, Nat.reduceLT, Nat.reduceEqDiff, reduceCtorEq, Nat.reduceAdd, Nat.reduceMul, Int.reduceLE, Int.reduceLT, Int.reduceToNat, Nat.reduceLeDiff, Nat.reduceSub, Int.reduceEq, Nat.reduceBEq, evB, tyA, lowW3, lowW1, lowW7, hLw, hkw]; (repeat (with_reducible refine And.intro ?_ ?_; exact sdX)); (with_reducible first | refine awp_id ?_ | refine id_call ?_ | refine id_and ?_ | refine id_ex ?_ | refine id_all ?_ | refine id_nat ?_ | refine id_le ?_))))
  refine awp_at 112 [(0, _), (1, _), (5, _), (6, _), (7, _), (8, _)] [(1000, _), (1001, _)] rfl (by (first | simp (maxSteps := 4000000) only [↓reduceIte, Nat.reduceLT, Nat.reduceEqDiff, reduceCtorEq, Nat.reduceAdd, Nat.reduceMul, Int.reduceLE, Int.reduceLT, Int.reduceToNat, Nat.reduceLeDiff, Nat.reduceSub, Int.reduceEq, Nat.reduceBEq, evB] | skip); exact ⟨rfl, rfl, rfl, rfl, rfl, rfl⟩) (by (first | simp (maxSteps := 4000000) only [↓reduceIte, Nat.reduceLT, Nat.reduceEqDiff, reduceCtorEq, Nat.reduceAdd, Nat.reduceMul, Int.reduceLE, Int.reduceLT, Int.reduceToNat, Nat.reduceLeDiff, Nat.reduceSub, Int.reduceEq, Nat.reduceBEq, evB] | skip); exact ⟨rfl, rfl⟩) ?_
  refine awp_own_nilC 1001 0 2 80001 1 (by decide) (by simp (maxSteps := 4000000) only [↓reduceIte, Nat.reduceLT, Nat.reduceEqDiff, reduceCtorEq, Nat.reduceAdd, Nat.reduceMul, Int.reduceLE, Int.reduceLT, Int.reduceToNat, Nat.reduceLeDiff, Nat.reduceSub, Int.reduceEq, Nat.reduceBEq, evB]; rfl) rfl rfl rfl ?_
  refine awp_own_nilC 1001 0 3 80002 1 (by decide) (by simp (maxSteps := 4000000) only [↓reduceIte, Nat.reduceLT, Nat.reduceEqDiff, reduceCtorEq, Nat.reduceAdd, Nat.reduceMul, Int.reduceLE, Int.reduceLT, Int.reduceToNat, Nat.reduceLeDiff, Nat.reduceSub, Int.reduceEq, Nat.reduceBEq, evB]; rfl) rfl rfl rfl ?_
  refine awp_unflat 80002 ?_
  obtain ⟨L, eL⟩ : ∃ L, L = labD z0 := ⟨_, rfl⟩
  obtain ⟨k, ek⟩ : ∃ k, k = numD z1 := ⟨_, rfl⟩
  rw [← eL] at hL hLw ⊢
  rw [← ek] at hk hkw ⊢
  refine awp_loop (X := Nat) (fun i => mkS 112 [(0, .sl f (tri l)), (1, i64 fin), (5, .ptr 1000 0 0), (6, .ptr 1001 0 0), (7, i64 k), (8, i64 i)]
      ([(1000, { sz := 2, rows := [[i64 z0, i64 z1]], flat := false }), (1001, { sz := 4, rows := [[i64 L, i64 0, .own 80001 0 i, .own 80002 0 i]], flat := false }), (80001, { sz := 1, rows := bos (finD fin i) }), (80002, { sz := 1, rows := ownRows i L, flat := false })] ++ fam i fun _ => { sz := 1, rows := ints (negs L) }))
    (fun i => i ≤ k) (fun i => k - i) 0 (by omega) (mkS_le rfl ?_ ?_) ?_
  · simp (maxSteps := 4000000) only [↓reduceIte, Nat.reduceLT, Nat.reduceEqDiff, reduceCtorEq, Nat.reduceAdd, Nat.reduceMul, Int.reduceLE, Int.reduceLT, Int.reduceToNat, Nat.reduceLeDiff, Nat.reduceSub, Int.reduceEq, Nat.reduceBEq, evB]
    try rfl
  · simp (maxSteps := 4000000) only [↓reduceIte, Nat.reduceLT, Nat.reduceEqDiff, reduceCtorEq, Nat.reduceAdd, Nat.reduceMul, Int.reduceLE, Int.reduceLT, Int.reduceToNat, Nat.reduceLeDiff, Nat.reduceSub, Int.reduceEq, Nat.reduceBEq, evB, fam, List.range_zero]
    exact ⟨rfl, rfl⟩
  · intro i hi
    by_cases hlt : i < k
    · have d1 : decide ((i : Int) < (k : Int)) = true := by simpa using hlt
      have n0 : List.replicate (L : Int).toNat [D.v (Value.int IntKind.i64 0)] = ints (List.replicate L 0) := by simp [ints]
      ((repeat (first | refine awp_seq ?_ | refine awp_block ?_)); ((first | refine awp_skip ?_ | refine awp_exit ?_ | refine awp_reg ttok ?_ | (refine awp_draw ttok ?dr_calm ?_; (case dr_calm => decide +kernel)) | refine awp_condM ?_); simp (maxSteps := 4000000) only [↓reduceIte, Nat.reduceLT, Nat.reduceEqDiff, reduceCtorEq, Nat.reduceAdd, Nat.reduceMul, Int.reduceLE, Int.reduceLT, Int.reduceToNat, Nat.reduceLeDiff, Nat.reduceSub, Int.reduceEq, Nat.reduceBEq, evB, tyA, d1]; (repeat (with_reducible refine And.intro ?_ ?_; exact sdX)); (with_reducible first | refine awp_id ?_ | refine id_call ?_ | refine id_and ?_ | refine id_ex ?_ | refine id_all ?_ | refine id_nat ?_ | refine id_le ?_)))
      ((repeat (first | refine awp_seq ?_ | refine awp_block ?_)); ((first | refine awp_skip ?_ | refine awp_exit ?_ | refine awp_reg ttok ?_ | (refine awp_draw ttok ?dr_calm ?_; (case dr_calm => decide +kernel)) | refine awp_condM ?_); simp (maxSteps := 4000000) only [↓reduceIte, Nat.reduceLT, Nat.reduceEqDiff, reduceCtorEq, Nat.reduceAdd, Nat.reduceMul, Int.reduceLE, Int.reduceLT, Int.reduceToNat, Nat.reduceLeDiff, Nat.reduceSub, Int.reduceEq, Nat.reduceBEq, evB, tyA, d1]; (repeat (with_reducible refine And.intro ?_ ?_; exact sdX)); (with_reducible first | refine awp_id ?_ | refine id_call ?_ | refine id_and ?_ | refine id_ex ?_ | refine id_all ?_ | refine id_nat ?_ | refine id_le ?_)))
      ((repeat (first | refine awp_seq ?_ | refine awp_block ?_)); ((first | refine awp_skip ?_ | refine awp_exit ?_ | refine awp_reg ttok ?_ | (refine awp_draw ttok ?dr_calm ?_; (case dr_calm => decide +kernel)) | refine awp_condM ?_); simp (maxSteps := 4000000) only [↓reduceIte, Nat.reduceLT, Nat.reduceEqDiff, reduceCtorEq, Nat.reduceAdd, Nat.reduceMul, Int.reduceLE, Int.reduceLT, Int.reduceToNat, Nat.reduceLeDiff, Nat.reduceSub, Int.reduceEq, Nat.reduceBEq, evB, tyA]; (repeat (with_reducible refine And.intro ?_ ?_; exact sdX)); (with_reducible first | refine awp_id ?_ | refine id_call ?_ | refine id_and ?_ | refine id_ex ?_ | refine id_all ?_ | refine id_nat ?_ | refine id_le ?_)))
      repeat (first | refine awp_seq ?_ | refine awp_block ?_)
      refine awp_region ttok (i + 89998) ?_
      simp (maxSteps := 4000000) only [↓reduceIte, Nat.reduceLT, Nat.reduceEqDiff, reduceCtorEq, Nat.reduceAdd, Nat.reduceMul, Int.reduceLE, Int.reduceLT, Int.reduceToNat, Nat.reduceLeDiff, Nat.reduceSub, Int.reduceEq, Nat.reduceBEq, evB, tyA, n0, lk_famO, show i + 89998 + 1 + 1 = i + 90000 from rfl]
      (repeat (with_reducible refine And.intro ?_ ?_; exact sdX))
      (repeat (first | refine awp_seq ?_ | refine awp_block ?_ | ((first | refine awp_skip ?_ | refine awp_exit ?_ | refine awp_reg ttok ?_ | (refine awp_draw ttok ?dr_calm ?_; (case dr_calm => decide +kernel)) | refine awp_condM ?_); simp (maxSteps := 4000000) only [↓reduceIte, Nat.reduceLT, Nat.reduceEqDiff, reduceCtorEq, Nat.reduceAdd, Nat.reduceMul, Int.reduceLE, Int.reduceLT, Int.reduceToNat, Nat.reduceLeDiff, Nat.reduceSub, Int.reduceEq, Nat.reduceBEq, evB, tyA]; (repeat (with_reducible refine And.intro ?_ ?_; exact sdX)); (with_reducible first | refine awp_id ?_ | refine id_call ?_ | refine id_and ?_ | refine id_ex ?_ | refine id_all ?_ | refine id_nat ?_ | refine id_le ?_))))
      have hnl : ∀ j, j ≤ L → (negP L j).length = L := fun j h => negP_len h
      refine awp_loop (X := Nat) (fun j => mkS 112 [(0, .sl f (tri l)), (1, i64 fin), (5, .ptr 1000 0 0), (6, .ptr 1001 0 0), (7, i64 k), (8, i64 i), (9, .own (i + 90000) 0 L), (10, i64 j)]
          ([(1000, { sz := 2, rows := [[i64 z0, i64 z1]], flat := false }), (1001, { sz := 4, rows := [[i64 L, i64 0, .own 80001 0 i, .own 80002 0 i]], flat := false }), (80001, { sz := 1, rows := bos (finD fin i) }), (80002, { sz := 1, rows := ownRows i L, flat := false }), (i + 90000, { sz := 1, rows := ints (negP L j) })] ++ fam i fun _ => { sz := 1, rows := ints (negs L) }))
        (fun j => j ≤ L) (fun j => L - j) 0 (by omega) (mkS_le rfl ?_ ?_) ?_
      · simp (maxSteps := 4000000) only [↓reduceIte, Nat.reduceLT, Nat.reduceEqDiff, reduceCtorEq, Nat.reduceAdd, Nat.reduceMul, Int.reduceLE, Int.reduceLT, Int.reduceToNat, Nat.reduceLeDiff, Nat.reduceSub, Int.reduceEq, Nat.reduceBEq, evB]
        try rfl
      · simp (maxSteps := 4000000) only [↓reduceIte, Nat.reduceLT, Nat.reduceEqDiff, reduceCtorEq, Nat.reduceAdd, Nat.reduceMul, Int.reduceLE, Int.reduceLT, Int.reduceToNat, Nat.reduceLeDiff, Nat.reduceSub, Int.reduceEq, Nat.reduceBEq, evB, knowsH_app, knowsH_fam, negP_zero, ownRows_killO]
        refine ⟨by rw [← n0]; rfl, fun r hr => ?_⟩
        rw [if_neg (by omega), if_neg (by omega), lk_fam hr]
        rfl
      · intro j hj
        have hjl := hnl j hj
        by_cases hjlt : j < L
        · have d2 : decide ((j : Int) < (L : Int)) = true := by simpa using hjlt
          have hw : IntKind.i64.wrap ((j : Int) + 1) = ((j + 1 : Nat) : Int) := i64_in (by omega) (by omega)
          have hs : List.set (ints (negP L j)) j [D.v (Value.int IntKind.i64 (-1))] = ints (negP L (j + 1)) := by rw [← negP_set hjlt]; simp [ints]
          have hg : (ints (negP L j)).getD j [] = [i64 ((negP L j).getD j 0)] := ints_get (by omega)
          (repeat (first | refine awp_seq ?_ | refine awp_block ?_ | ((first | refine awp_skip ?_ | refine awp_exit ?_ | refine awp_reg ttok ?_ | (refine awp_draw ttok ?dr_calm ?_; (case dr_calm => decide +kernel)) | refine awp_condM ?_); simp (maxSteps := 4000000) only [↓reduceIte, Nat.reduceLT, Nat.reduceEqDiff, reduceCtorEq, Nat.reduceAdd, Nat.reduceMul, Int.reduceLE, Int.reduceLT, Int.reduceToNat, Nat.reduceLeDiff, Nat.reduceSub, Int.reduceEq, Nat.reduceBEq, evB, tyA, d2, hw, hjl, hs, hg]; (repeat (with_reducible refine And.intro ?_ ?_; exact sdX)); (with_reducible first | refine awp_id ?_ | refine id_call ?_ | refine id_and ?_ | refine id_ex ?_ | refine id_all ?_ | refine id_nat ?_ | refine id_le ?_))))
          refine ⟨j + 1, by omega, by omega, mkS_le rfl ?_ ?_⟩
          · exact evX
          · simp (maxSteps := 4000000) only [↓reduceIte, Nat.reduceLT, Nat.reduceEqDiff, reduceCtorEq, Nat.reduceAdd, Nat.reduceMul, Int.reduceLE, Int.reduceLT, Int.reduceToNat, Nat.reduceLeDiff, Nat.reduceSub, Int.reduceEq, Nat.reduceBEq, evB, knowsH_app, knowsH_fam, hs, hg]
            intro r hr
            rw [if_neg (by omega), if_neg (by omega), lk_fam hr]
        · have d2 : decide ((j : Int) < (L : Int)) = false := by simpa using hjlt
          obtain rfl : j = L := by omega
          (repeat (first | refine awp_seq ?_ | refine awp_block ?_ | ((first | refine awp_skip ?_ | refine awp_exit ?_ | refine awp_reg ttok ?_ | (refine awp_draw ttok ?dr_calm ?_; (case dr_calm => decide +kernel)) | refine awp_condM ?_); simp (maxSteps := 4000000) only [↓reduceIte, Nat.reduceLT, Nat.reduceEqDiff, reduceCtorEq, Nat.reduceAdd, Nat.reduceMul, Int.reduceLE, Int.reduceLT, Int.reduceToNat, Nat.reduceLeDiff, Nat.reduceSub, Int.reduceEq, Nat.reduceBEq, evB, tyA, d2]; (repeat (with_reducible refine And.intro ?_ ?_; exact sdX)); (with_reducible first | refine awp_id ?_ | refine id_call ?_ | refine id_and ?_ | refine id_ex ?_ | refine id_all ?_ | refine id_nat ?_ | refine id_le ?_))))
          refine awp_region ttok 50000000 ?_
          have hkb : (ownRows i j).map (D.killL 50000003) = ownRows i j := ownRows_killB (by omega) (by decide)
          have hi9 : (i = 49910003) = False := eq_false (by omega)
          have hnj := hnl j (Nat.le_refl _)
          simp (maxSteps := 4000000) only [↓reduceIte, Nat.reduceLT, Nat.reduceEqDiff, reduceCtorEq, Nat.reduceAdd, Nat.reduceMul, Int.reduceLE, Int.reduceLT, Int.reduceToNat, Nat.reduceLeDiff, Nat.reduceSub, Int.reduceEq, Nat.reduceBEq, evB, tyA, ownRows_len, ownRows_take, ownRows_app, ownRows_row, ownRows_kill, hkb, hi9]
          refine ⟨⟨by simp, by omega, by omega⟩, ?_⟩
          have hfl := finD_len fin i
          have hft : List.take i (finD fin i) = finD fin i := List.take_of_length_le (by omega)
          have hw : IntKind.i64.wrap ((i : Int) + 1) = ((i + 1 : Nat) : Int) := i64_in (by omega) (by omega)
          have hfs := finD_succ fin i
          have hu : IntKind.u64.wrap (i : Int) = (i : Int) := by
            simp only [IntKind.wrap, IntKind.bits, IntKind.signed, Bool.false_eq_true, if_false]
            first | omega | (simp; omega) | simp
          have hbo : ∀ b : Bool, [[D.v (Value.bool b)]] = bos [b] := fun _ => rfl
          (repeat (first | refine awp_seq ?_ | refine awp_block ?_ | ((first | refine awp_skip ?_ | refine awp_exit ?_ | refine awp_reg ttok ?_ | (refine awp_draw ttok ?dr_calm ?_; (case dr_calm => decide +kernel)) | refine awp_condM ?_); simp (maxSteps := 4000000) only [↓reduceIte, Nat.reduceLT, Nat.reduceEqDiff, reduceCtorEq, Nat.reduceAdd, Nat.reduceMul, Int.reduceLE, Int.reduceLT, Int.reduceToNat, Nat.reduceLeDiff, Nat.reduceSub, Int.reduceEq, Nat.reduceBEq, evB, tyA, hw, hu, lowW1, bos_len, bos_take, bos_app, bos_row, hbo, hfl, hft, ← hfs]; (repeat (with_reducible refine And.intro ?_ ?_; exact sdX)); (with_reducible first | refine awp_id ?_ | refine id_call ?_ | refine id_and ?_ | refine id_ex ?_ | refine id_all ?_ | refine id_nat ?_ | refine id_le ?_))))
          refine ⟨i + 1, by omega, by omega, mkS_le rfl ?_ ?_⟩
          · exact evX
          · simp (maxSteps := 4000000) only [↓reduceIte, Nat.reduceLT, Nat.reduceEqDiff, reduceCtorEq, Nat.reduceAdd, Nat.reduceMul, Int.reduceLE, Int.reduceLT, Int.reduceToNat, Nat.reduceLeDiff, Nat.reduceSub, Int.reduceEq, Nat.reduceBEq, evB, knowsH_app, knowsH_fam, ownRows_app, ← hfs]
            refine ⟨by rw [ownRows_kill (by decide), ownRows_kill (by decide)], fun r hr => ?_⟩
            rw [if_neg (by omega), if_neg (by omega)]
            by_cases hri : r = i
            · rw [if_pos hri, negP_all]; rfl
            · rw [if_neg hri, lk_fam (by omega)]; rfl
    · have d1 : decide ((i : Int) < (k : Int)) = false := by simpa using hlt
      obtain rfl : i = k := by omega
      (repeat (first | refine awp_seq ?_ | refine awp_block ?_ | ((first | refine awp_skip ?_ | refine awp_exit ?_ | refine awp_reg ttok ?_ | (refine awp_draw ttok ?dr_calm ?_; (case dr_calm => decide +kernel)) | refine awp_condM ?_); simp (maxSteps := 4000000) only [↓reduceIte, Nat.reduceLT, Nat.reduceEqDiff, reduceCtorEq, Nat.reduceAdd, Nat.reduceMul, Int.reduceLE, Int.reduceLT, Int.reduceToNat, Nat.reduceLeDiff, Nat.reduceSub, Int.reduceEq, Nat.reduceBEq, evB, tyA, d1]; (repeat (with_reducible refine And.intro ?_ ?_; exact sdX)); (with_reducible first | refine awp_id ?_ | refine id_call ?_ | refine id_and ?_ | refine id_ex ?_ | refine id_all ?_ | refine id_nat ?_ | refine id_le ?_))))
      have hok := fun n => nxD_ok (L := L) hk.1 l n
      refine awp_loop (X := Nat) (fun n => mkS 112 [(0, .sl f (tri l)), (5, .ptr 1000 0 0), (6, .ptr 1001 0 0), (7, i64 i), (11, i64 n)]
          ([(1000, { sz := 2, rows := [[i64 z0, i64 z1]], flat := false }), (1001, { sz := 4, rows := [[i64 L, i64 0, .own 80001 0 i, .own 80002 0 i]], flat := false }), (80001, { sz := 1, rows := bos (finD fin i) }), (80002, { sz := 1, rows := ownRows i L, flat := false })] ++ fam i fun r => { sz := 1, rows := ints ((nxD L i l n).getD r []) }))
        (fun n => n ≤ (if L = 0 then 0 else min l.length 24)) (fun n => 24 - n) 0 (Nat.zero_le _) (mkS_le rfl ?_ ?_) ?_
      · simp (maxSteps := 4000000) only [↓reduceIte, Nat.reduceLT, Nat.reduceEqDiff, reduceCtorEq, Nat.reduceAdd, Nat.reduceMul, Int.reduceLE, Int.reduceLT, Int.reduceToNat, Nat.reduceLeDiff, Nat.reduceSub, Int.reduceEq, Nat.reduceBEq, evB]
        try rfl
      · simp (maxSteps := 4000000) only [↓reduceIte, Nat.reduceLT, Nat.reduceEqDiff, reduceCtorEq, Nat.reduceAdd, Nat.reduceMul, Int.reduceLE, Int.reduceLT, Int.reduceToNat, Nat.reduceLeDiff, Nat.reduceSub, Int.reduceEq, Nat.reduceBEq, evB, knowsH_app, knowsH_fam]
        intro r hr
        rw [lk_fam hr]
        simp [nxD, nx0, hr]
      · intro n hn
        by_cases hlt2 : n < (if L = 0 then 0 else min l.length 24)
        · have hL0 : L ≠ 0 := by intro e; rw [if_pos e] at hlt2; omega
          rw [if_neg hL0] at hlt2 hn
          have e1 : decide ((n : Int) < (l.length : Int)) = true := by simp; omega
          have e2 : decide ((n : Int) < 24) = true := by simp; omega
          have e3 : decide (0 < (L : Int)) = true := by simp; omega
          have hgt := tri_get (l := l) (i := n) (by omega)
          have hF : mvF i (l.getD n (0, 0, 0)) < i := Nat.mod_lt _ (by omega)
          have hT : mvT i (l.getD n (0, 0, 0)) < i := Nat.mod_lt _ (by omega)
          have hC : mvC L (l.getD n (0, 0, 0)) < L := Nat.mod_lt _ (by omega)
          have hstep : nxD L i l (n + 1) = setN (nxD L i l n) (mvF i (l.getD n (0, 0, 0))) (mvC L (l.getD n (0, 0, 0))) (mvT i (l.getD n (0, 0, 0))) := rfl
          generalize hx : l.getD n (0, 0, 0) = x at *
          obtain ⟨x1, x2, x3⟩ := x
          obtain ⟨F, hFe⟩ : ∃ F, mvF i (x1, x2, x3) = F := ⟨_, rfl⟩
          obtain ⟨T, hTe⟩ : ∃ T, mvT i (x1, x2, x3) = T := ⟨_, rfl⟩
          obtain ⟨C, hCe⟩ : ∃ C, mvC L (x1, x2, x3) = C := ⟨_, rfl⟩
          rw [hFe] at hF hstep; rw [hTe] at hT hstep; rw [hCe] at hC hstep
          have mF : lowB 255 x1 % i = F := hFe
          have mT : lowB 255 x2 % i = T := hTe
          have mC : lowB 255 x3 % L = C := hCe
          have wF : IntKind.i64.wrap (F : Int) = (F : Int) := i64_in (by omega) (by omega)
          have wT : IntKind.i64.wrap (T : Int) = (T : Int) := i64_in (by omega) (by omega)
          have wC : IntKind.i64.wrap (C : Int) = (C : Int) := i64_in (by omega) (by omega)
          have z1' : (((i : Nat) : Int) == 0) = false := by simp; omega
          have z2' : (((L : Nat) : Int) == 0) = false := by simp; omega
          have z3' : (((i : Nat) : Int) = 0) = False := eq_false (by omega)
          have z4' : (((L : Nat) : Int) = 0) = False := eq_false (by omega)
          have hg := ownRows_get (L := L) hF
          have hnk := (hok n).get hF
          have hgi := ints_get (l := (nxD L i l n).getD F []) (i := C) (by omega)
          have hw : IntKind.i64.wrap ((n : Int) + 1) = ((n + 1 : Nat) : Int) := i64_in (by omega) (by omega)
          (repeat (first | refine awp_seq ?_ | refine awp_block ?_ | ((first | refine awp_skip ?_ | refine awp_exit ?_ | refine awp_reg ttok ?_ | (refine awp_draw ttok ?dr_calm ?_; (case dr_calm => decide +kernel)) | refine awp_condM ?_); simp (maxSteps := 4000000) only [↓reduceIte, Nat.reduceLT, Nat.reduceEqDiff, reduceCtorEq, Nat.reduceAdd, Nat.reduceMul, Int.reduceLE, Int.reduceLT, Int.reduceToNat, Nat.reduceLeDiff, Nat.reduceSub, Int.reduceEq, Nat.reduceBEq, evB, tyA, e1, e2, e3, tri_len, hgt]; (repeat (with_reducible refine And.intro ?_ ?_; exact sdX)); (with_reducible first | refine awp_id ?_ | refine id_call ?_ | refine id_and ?_ | refine id_ex ?_ | refine id_all ?_ | refine id_nat ?_ | refine id_le ?_))))
          refine awp_drawG ttok ((0, none) :: (1, none) :: (2, none) :: (3, none) :: (4, none) :: (5, none) :: (6, none) :: (7, none) :: (8, none) :: (9, none) :: (10, none) :: (11, none) :: (12, none) :: (13, none) :: (14, none) :: (15, none) :: (16, none) :: (17, none) :: (18, none) :: (19, none) :: (20, none) :: (21, none) :: (22, none) :: (23, none) :: (24, none) :: (25, none) :: (26, none) :: (27, none) :: (28, none) :: (29, none) :: (30, some []) :: []) ([]) ([]) (by decide +kernel) fun O hO => ?_; simp only [OpsAre, Nat.reduceAdd, and_true, List.toList_toArray, List.append_eq, List.cons_append, List.nil_append] at hO; simp (maxSteps := 4000000) only [↓reduceIte, Nat.reduceLT, Nat.reduceEqDiff, reduceCtorEq, Nat.reduceAdd, Nat.reduceMul, Int.reduceLE, Int.reduceLT, Int.reduceToNat, Nat.reduceLeDiff, Nat.reduceSub, Int.reduceEq, Nat.reduceBEq, evB, tyA, hO, tri_len, hgt, lowW255, tmodN, mF, mT, mC, wF, wT, wC, z1', z2', z3', z4', ownRows_len, hg, lk_fam hF, hgi]; (repeat (with_reducible refine And.intro ?_ ?_; exact sdX))
          (repeat (first | refine awp_seq ?_ | refine awp_block ?_ | ((first | refine awp_skip ?_ | refine awp_exit ?_ | refine awp_reg ttok ?_ | (refine awp_draw ttok ?dr_calm ?_; (case dr_calm => decide +kernel)) | refine awp_condM ?_); simp (maxSteps := 4000000) only [↓reduceIte, Nat.reduceLT, Nat.reduceEqDiff, reduceCtorEq, Nat.reduceAdd, Nat.reduceMul, Int.reduceLE, Int.reduceLT, Int.reduceToNat, Nat.reduceLeDiff, Nat.reduceSub, Int.reduceEq, Nat.reduceBEq, evB, tyA, hw]; (repeat (with_reducible refine And.intro ?_ ?_; exact sdX)); (with_reducible first | refine awp_id ?_ | refine id_call ?_ | refine id_and ?_ | refine id_ex ?_ | refine id_all ?_ | refine id_nat ?_ | refine id_le ?_))))
          refine ⟨n + 1, by rw [if_neg hL0]; omega, by omega, mkS_le rfl ?_ ?_⟩
          · exact evX
          · simp (maxSteps := 4000000) only [↓reduceIte, Nat.reduceLT, Nat.reduceEqDiff, reduceCtorEq, Nat.reduceAdd, Nat.reduceMul, Int.reduceLE, Int.reduceLT, Int.reduceToNat, Nat.reduceLeDiff, Nat.reduceSub, Int.reduceEq, Nat.reduceBEq, evB, knowsH_app, knowsH_fam, hgi]
            intro r hr
            rw [hstep]
            by_cases hrF : r = F
            · rw [if_pos hrF, hrF]
              have e : (setN (nxD L i l n) F C T).getD F [] = ((nxD L i l n).getD F []).set C T := by
                have := (hok n).len
                simp [setN, List.getD, show F < (nxD L i l n).length by omega]
              rw [e]
              simp [ints]
            · rw [if_neg hrF, lk_fam hr]
              have e : (setN (nxD L i l n) F C T).getD r [] = (nxD L i l n).getD r [] := by
                simp [setN, List.getD, List.getElem?_set_ne (Ne.symm hrF)]
              rw [e]
        · obtain rfl : n = (if L = 0 then 0 else min l.length 24) := by omega
          have hfin : nxD L i l (if L = 0 then 0 else min l.length 24) = nextD L i l := rfl
          obtain ⟨n, hn0⟩ : ∃ n, n = (if L = 0 then 0 else min l.length 24) := ⟨_, rfl⟩
          rw [← hn0] at hfin ⊢
          have hcases : decide ((n : Int) < (l.length : Int)) = false ∨ (decide ((n : Int) < (l.length : Int)) = true ∧ decide ((n : Int) < 24) = false) ∨ (decide ((n : Int) < (l.length : Int)) = true ∧ decide ((n : Int) < 24) = true ∧ decide (0 < (L : Int)) = false) := by
            simp only [decide_eq_false_iff_not, decide_eq_true_eq]
            by_cases hL0 : L = 0
            · omega
            · rw [if_neg hL0] at hn0; omega
          rw [hfin]
          have hokN := nextD_ok (L := L) hk.1 l
          generalize nextD L i l = N at *
          obtain ⟨pp, hpe, hpp⟩ := purLL_own (h := lk ([(1000, { sz := 2, rows := [[i64 z0, i64 z1]], flat := false }), (1001, { sz := 4, rows := [[i64 L, i64 0, .own 80001 0 i, .own 80002 0 i]], flat := false }), (80001, { sz := 1, rows := bos (finD fin i) }), (80002, { sz := 1, rows := ownRows i L, flat := false })] ++ fam i fun r => { sz := 1, rows := ints (N.getD r []) })) (L := L) (g := fun r => { sz := 1, rows := ints (N.getD r []) }) (List.range i) (fun r hr => ⟨by
              have hr' := List.mem_range.1 hr
              rw [lk_app, lk_none (by simp)]
              exact lk_fam hr', rfl, by rw [ints_len]; exact (hokN.get (List.mem_range.1 hr)).1⟩)
          have hrows : ((List.range i).map fun r => [D.sl false (ints (N.getD r []))]) = iis N := by
            apply List.ext_getElem
            · simp [iis, hokN.len]
            · intro r h1 h2
              have : r < N.length := by simpa [iis] using h2
              simp [iis, List.getD, this]
          refine awp_pureO 80002 (o := { sz := 1, rows := ownRows i L, flat := false }) evX rfl hpe hpp (by simp) ?_
          simp only [hrows]
          have hcon : ∀ k, decide (k < 90000) = true → ((List.range i).map (· + 90000)).contains k = false := fun k h => map90000_has h
          have c1 := hcon 1000 rfl
          have c2 := hcon 1001 rfl
          have c3 := hcon 80001 rfl
          have c4 := hcon 80002 rfl
          have hfl := finD_len fin i
          have hft : List.take i (finD fin i) = finD fin i := List.take_of_length_le (by omega)
          have hil := hokN.len
          have hit : List.take i N = N := List.take_of_length_le (by omega)
          refine awp_at 112 [(0, _), (5, _), (6, _), (7, _), (11, _)] [(1000, _), (1001, _), (80001, _), (80002, _)] rfl (by (first | simp (maxSteps := 4000000) only [↓reduceIte, Nat.reduceLT, Nat.reduceEqDiff, reduceCtorEq, Nat.reduceAdd, Nat.reduceMul, Int.reduceLE, Int.reduceLT, Int.reduceToNat, Nat.reduceLeDiff, Nat.reduceSub, Int.reduceEq, Nat.reduceBEq, evB, c1, c2, c3, c4] | skip); exact ⟨rfl, rfl, rfl, rfl, rfl⟩) (by (first | simp (maxSteps := 4000000) only [↓reduceIte, Nat.reduceLT, Nat.reduceEqDiff, reduceCtorEq, Nat.reduceAdd, Nat.reduceMul, Int.reduceLE, Int.reduceLT, Int.reduceToNat, Nat.reduceLeDiff, Nat.reduceSub, Int.reduceEq, Nat.reduceBEq, evB, c1, c2, c3, c4] | skip); exact ⟨rfl, rfl, rfl, rfl⟩) ?_
          refine awp_pureO 1001 (by simp (maxSteps := 4000000) only [↓reduceIte, Nat.reduceLT, Nat.reduceEqDiff, reduceCtorEq, Nat.reduceAdd, Nat.reduceMul, Int.reduceLE, Int.reduceLT, Int.reduceToNat, Nat.reduceLeDiff, Nat.reduceSub, Int.reduceEq, Nat.reduceBEq, evB]; rfl) rfl (by simp (maxSteps := 4000000) only [↓reduceIte, Nat.reduceLT, Nat.reduceEqDiff, reduceCtorEq, Nat.reduceAdd, Nat.reduceMul, Int.reduceLE, Int.reduceLT, Int.reduceToNat, Nat.reduceLeDiff, Nat.reduceSub, Int.reduceEq, Nat.reduceBEq, evB, bos_len, bos_take, iis_len, iis_take, hfl, hft, hil, hit]; rfl) (by simp (maxSteps := 4000000) only [↓reduceIte, Nat.reduceLT, Nat.reduceEqDiff, reduceCtorEq, Nat.reduceAdd, Nat.reduceMul, Int.reduceLE, Int.reduceLT, Int.reduceToNat, Nat.reduceLeDiff, Nat.reduceSub, Int.reduceEq, Nat.reduceBEq, evB, bos_len, iis_len, hfl, hil]) (by decide) ?_
          refine awp_at 112 [(0, _), (5, _), (6, _), (7, _), (11, _)] [(1000, _), (1001, _)] rfl (by (first | simp (maxSteps := 4000000) only [↓reduceIte, Nat.reduceLT, Nat.reduceEqDiff, reduceCtorEq, Nat.reduceAdd, Nat.reduceMul, Int.reduceLE, Int.reduceLT, Int.reduceToNat, Nat.reduceLeDiff, Nat.reduceSub, Int.reduceEq, Nat.reduceBEq, evB] | skip); exact ⟨rfl, rfl, rfl, rfl, rfl⟩) (by (first | simp (maxSteps := 4000000) only [↓reduceIte, Nat.reduceLT, Nat.reduceEqDiff, reduceCtorEq, Nat.reduceAdd, Nat.reduceMul, Int.reduceLE, Int.reduceLT, Int.reduceToNat, Nat.reduceLeDiff, Nat.reduceSub, Int.reduceEq, Nat.reduceBEq, evB] | skip); exact ⟨rfl, rfl⟩) ?_
          have hsw : lowB 255 (z1.fdiv (2 ^ min 3 IntKind.i64.bits)) % i = startD z1 := by rw [startD, ek]
          have hs1 := startD_lt z1
          rw [← ek] at hs1
          have wS : IntKind.i64.wrap ((startD z1 : Nat) : Int) = ((startD z1 : Nat) : Int) := i64_in (by omega) (by omega)
          have z3' : (((i : Nat) : Int) = 0) = False := eq_false (by omega)
          have z1' : (((i : Nat) : Int) == 0) = false := by simp; omega
          rcases hcases with q | ⟨q1, q2⟩ | ⟨q1, q2, q3⟩
          · (repeat (first | refine awp_seq ?_ | refine awp_block ?_ | ((first | refine awp_skip ?_ | refine awp_exit ?_ | refine awp_reg ttok ?_ | (refine awp_draw ttok ?dr_calm ?_; (case dr_calm => decide +kernel)) | refine awp_condM ?_); simp (maxSteps := 4000000) only [↓reduceIte, Nat.reduceLT, Nat.reduceEqDiff, reduceCtorEq, Nat.reduceAdd, Nat.reduceMul, Int.reduceLE, Int.reduceLT, Int.reduceToNat, Nat.reduceLeDiff, Nat.reduceSub, Int.reduceEq, Nat.reduceBEq, evB, tyA, q, tri_len, lowW255, tmodN, hsw, wS, z1', z3']; (repeat (with_reducible refine And.intro ?_ ?_; exact sdX)); (with_reducible first | refine awp_id ?_ | refine id_call ?_ | refine id_and ?_ | refine id_ex ?_ | refine id_all ?_ | refine id_nat ?_ | refine id_le ?_))))
            exact awp_ret (endsV [] (.inr rfl) (by simp (maxSteps := 4000000) only [↓reduceIte, Nat.reduceLT, Nat.reduceEqDiff, reduceCtorEq, Nat.reduceAdd, Nat.reduceMul, Int.reduceLE, Int.reduceLT, Int.reduceToNat, Nat.reduceLeDiff, Nat.reduceSub, Int.reduceEq, Nat.reduceBEq, evB, tyA, dfaD]; rfl) trivial evX)
          · (repeat (first | refine awp_seq ?_ | refine awp_block ?_ | ((first | refine awp_skip ?_ | refine awp_exit ?_ | refine awp_reg ttok ?_ | (refine awp_draw ttok ?dr_calm ?_; (case dr_calm => decide +kernel)) | refine awp_condM ?_); simp (maxSteps := 4000000) only [↓reduceIte, Nat.reduceLT, Nat.reduceEqDiff, reduceCtorEq, Nat.reduceAdd, Nat.reduceMul, Int.reduceLE, Int.reduceLT, Int.reduceToNat, Nat.reduceLeDiff, Nat.reduceSub, Int.reduceEq, Nat.reduceBEq, evB, tyA, q1, q2, tri_len, lowW255, tmodN, hsw, wS, z1', z3']; (repeat (with_reducible refine And.intro ?_ ?_; exact sdX)); (with_reducible first | refine awp_id ?_ | refine id_call ?_ | refine id_and ?_ | refine id_ex ?_ | refine id_all ?_ | refine id_nat ?_ | refine id_le ?_))))
            exact awp_ret (endsV [] (.inr rfl) (by simp (maxSteps := 4000000) only [↓reduceIte, Nat.reduceLT, Nat.reduceEqDiff, reduceCtorEq, Nat.reduceAdd, Nat.reduceMul, Int.reduceLE, Int.reduceLT, Int.reduceToNat, Nat.reduceLeDiff, Nat.reduceSub, Int.reduceEq, Nat.reduceBEq, evB, tyA, dfaD]; rfl) trivial evX)
          · (repeat (first | refine awp_seq ?_ | refine awp_block ?_ | ((first | refine awp_skip ?_ | refine awp_exit ?_ | refine awp_reg ttok ?_ | (refine awp_draw ttok ?dr_calm ?_; (case dr_calm => decide +kernel)) | refine awp_condM ?_); simp (maxSteps := 4000000) only [↓reduceIte, Nat.reduceLT, Nat.reduceEqDiff, reduceCtorEq, Nat.reduceAdd, Nat.reduceMul, Int.reduceLE, Int.reduceLT, Int.reduceToNat, Nat.reduceLeDiff, Nat.reduceSub, Int.reduceEq, Nat.reduceBEq, evB, tyA, q1, q2, q3, tri_len, lowW255, tmodN, hsw, wS, z1', z3']; (repeat (with_reducible refine And.intro ?_ ?_; exact sdX)); (with_reducible first | refine awp_id ?_ | refine id_call ?_ | refine id_and ?_ | refine id_ex ?_ | refine id_all ?_ | refine id_nat ?_ | refine id_le ?_))))
            exact awp_ret (endsV [] (.inr rfl) (by simp (maxSteps := 4000000) only [↓reduceIte, Nat.reduceLT, Nat.reduceEqDiff, reduceCtorEq, Nat.reduceAdd, Nat.reduceMul, Int.reduceLE, Int.reduceLT, Int.reduceToNat, Nat.reduceLeDiff, Nat.reduceSub, Int.reduceEq, Nat.reduceBEq, evB, tyA, dfaD]; rfl) trivial evX)
theorem take_snoc {α : Type} {l : List α} {k : Nat} (hk : k < l.length) (d : α) : l.take (k + 1) = l.take k ++ [l.getD k d] := by
  rw [List.take_add_one, List.getElem?_eq_getElem hk]; simp [List.getD, List.getElem?_eq_getElem hk]
def swpK (N : List (List Int)) (o : List Bool) (i k : Nat) : List Bool := if (((N.getD i []).take k).any fun s => decide (s ≥ 0) && o.getD s.toNat false) = true then o.set i true else o
theorem swpK_len (N : List (List Int)) (o : List Bool) (i k : Nat) : (swpK N o i k).length = o.length := by
  unfold swpK; split <;> simp
theorem swpK_zero (N : List (List Int)) (o : List Bool) (i : Nat) : swpK N o i 0 = o := by simp [swpK]
theorem swpK_all (N : List (List Int)) (o : List Bool) (i k : Nat) (h : (N.getD i []).length ≤ k) : swpK N o i k = swp1 N o i := by
  rw [swpK, List.take_of_length_le h, swp1]
theorem swpK_no {N : List (List Int)} {o : List Bool} {i k : Nat} (hk : k < (N.getD i []).length) (h : (decide ((N.getD i []).getD k 0 ≥ 0) && (swpK N o i k).getD ((N.getD i []).getD k 0).toNat false) = false) : swpK N o i (k + 1) = swpK N o i k := by
  have e : (N.getD i []).take (k + 1) = (N.getD i []).take k ++ [(N.getD i []).getD k 0] := by
    exact take_snoc hk 0
  generalize hx : (N.getD i []).getD k 0 = x at *
  by_cases ha : (((N.getD i []).take k).any fun s => decide (s ≥ 0) && o.getD s.toNat false) = true
  · unfold swpK
    rw [e, List.any_append, ha, Bool.true_or, if_pos rfl]
  · have e0 : swpK N o i k = o := by unfold swpK; rw [if_neg ha]
    rw [e0] at h ⊢
    unfold swpK
    rw [e, List.any_append, Bool.not_eq_true _ |>.mp ha, Bool.false_or, List.any_cons, List.any_nil, Bool.or_false, h, if_neg (by simp)]
theorem swpK_yes {N : List (List Int)} {o : List Bool} {i k : Nat} (hk : k < (N.getD i []).length) (h : (decide ((N.getD i []).getD k 0 ≥ 0) && (swpK N o i k).getD ((N.getD i []).getD k 0).toNat false) = true) : swpK N o i (k + 1) = (swpK N o i k).set i true := by
  have e : (N.getD i []).take (k + 1) = (N.getD i []).take k ++ [(N.getD i []).getD k 0] := by
    exact take_snoc hk 0
  generalize hx : (N.getD i []).getD k 0 = x at *
  by_cases ha : (((N.getD i []).take k).any fun s => decide (s ≥ 0) && o.getD s.toNat false) = true
  · unfold swpK
    rw [e, List.any_append, ha, Bool.true_or, if_pos rfl, List.set_set]
  · have e0 : swpK N o i k = o := by unfold swpK; rw [if_neg ha]
    rw [e0] at h ⊢
    unfold swpK
    rw [e, List.any_append, Bool.not_eq_true _ |>.mp ha, Bool.false_or, List.any_cons, List.any_nil, Bool.or_false, h, if_pos rfl]
set_option maxRecDepth 20000 in
set_option maxHeartbeats 16000000 in
theorem c_RLive {L k : Nat} {N : List (List Int)} (h : NOk L k N) (st : Nat) (F : List Bool) (hF : F.length = k) (hL : L ≤ 4) (hk : 1 ≤ k ∧ k ≤ 8) :
    Contract Try.prog 15 [dfaD L st F N] (.sl false (bos (liveL F N))) [] := by
  refine contract_of_awp (rs := [2]) Try.func15 rfl Try.ntmps15 (by simp) rfl fun E => ?_
  have hl := h.len
  (repeat (first | refine awp_seq ?_ | refine awp_block ?_ | ((first | refine awp_skip ?_ | refine awp_exit ?_ | refine awp_reg ttok ?_ | (refine awp_draw ttok ?dr_calm ?_; (case dr_calm => decide +kernel)) | refine awp_condM ?_); simp (maxSteps := 4000000) only [↓reduceIte, Nat.reduceLT, Nat.reduceEqDiff, reduceCtorEq, Nat.reduceAdd, Nat.reduceMul, Int.reduceLE, Int.reduceLT, Int.reduceToNat, Nat.reduceLeDiff, Nat.reduceSub, Int.reduceEq, Nat.reduceBEq, evB, tyA, dfaD, bos_row, bos_len]; (repeat (with_reducible refine And.intro ?_ ?_; exact sdX)); (with_reducible first | refine awp_id ?_ | refine id_call ?_ | refine id_and ?_ | refine id_ex ?_ | refine id_all ?_ | refine id_nat ?_ | refine id_le ?_))))
  refine awp_at 50 [(1, _), (3, _), (4, _)] [(1000, _), (2000, _)] rfl (by (first | simp (maxSteps := 4000000) only [↓reduceIte, Nat.reduceLT, Nat.reduceEqDiff, reduceCtorEq, Nat.reduceAdd, Nat.reduceMul, Int.reduceLE, Int.reduceLT, Int.reduceToNat, Nat.reduceLeDiff, Nat.reduceSub, Int.reduceEq, Nat.reduceBEq, evB] | skip); exact ⟨rfl, rfl, rfl⟩) (by (first | simp (maxSteps := 4000000) only [↓reduceIte, Nat.reduceLT, Nat.reduceEqDiff, reduceCtorEq, Nat.reduceAdd, Nat.reduceMul, Int.reduceLE, Int.reduceLT, Int.reduceToNat, Nat.reduceLeDiff, Nat.reduceSub, Int.reduceEq, Nat.reduceBEq, evB] | skip); exact ⟨rfl, rfl⟩) ?_
  refine awp_loop (X := Nat) (fun r => mkS 50 [(1, .ptr 1000 0 0), (3, .own 2000 0 k), (4, i64 r)] [(1000, { sz := 4, rows := [[i64 L, i64 st, .sl false (bos F), .sl false (iis N)]], flat := false }), (2000, { sz := 1, rows := bos (swpI N F r) })]) (fun r => r ≤ k) (fun r => k - r) 0 (Nat.zero_le _) (mkS_le rfl ?_ ?_) ?_
  · simp (maxSteps := 4000000) only [↓reduceIte, Nat.reduceLT, Nat.reduceEqDiff, reduceCtorEq, Nat.reduceAdd, Nat.reduceMul, Int.reduceLE, Int.reduceLT, Int.reduceToNat, Nat.reduceLeDiff, Nat.reduceSub, Int.reduceEq, Nat.reduceBEq, evB, hF]
    try rfl
  · simp (maxSteps := 4000000) only [↓reduceIte, Nat.reduceLT, Nat.reduceEqDiff, reduceCtorEq, Nat.reduceAdd, Nat.reduceMul, Int.reduceLE, Int.reduceLT, Int.reduceToNat, Nat.reduceLeDiff, Nat.reduceSub, Int.reduceEq, Nat.reduceBEq, evB, hF]
    try rfl
  · intro r hr
    by_cases hlt : r < k
    · have d1 : decide ((r : Int) < (k : Int)) = true := by simpa using hlt
      have hoL := swpI_len N F r
      have hnx : swpI N F (r + 1) = swp N (swpI N F r) := rfl
      generalize swpI N F r = o at *
      (repeat (first | refine awp_seq ?_ | refine awp_block ?_ | ((first | refine awp_skip ?_ | refine awp_exit ?_ | refine awp_reg ttok ?_ | (refine awp_draw ttok ?dr_calm ?_; (case dr_calm => decide +kernel)) | refine awp_condM ?_); simp (maxSteps := 4000000) only [↓reduceIte, Nat.reduceLT, Nat.reduceEqDiff, reduceCtorEq, Nat.reduceAdd, Nat.reduceMul, Int.reduceLE, Int.reduceLT, Int.reduceToNat, Nat.reduceLeDiff, Nat.reduceSub, Int.reduceEq, Nat.reduceBEq, evB, tyA, d1]; (repeat (with_reducible refine And.intro ?_ ?_; exact sdX)); (with_reducible first | refine awp_id ?_ | refine id_call ?_ | refine id_and ?_ | refine id_ex ?_ | refine id_all ?_ | refine id_nat ?_ | refine id_le ?_))))
      refine awp_loop (X := Nat) (fun s => mkS 50 [(1, .ptr 1000 0 0), (3, .own 2000 0 k), (4, i64 r), (5, i64 s)] [(1000, { sz := 4, rows := [[i64 L, i64 st, .sl false (bos F), .sl false (iis N)]], flat := false }), (2000, { sz := 1, rows := bos (swpS N o s) })]) (fun s => s ≤ k) (fun s => k - s) 0 (Nat.zero_le _) (mkS_le rfl ?_ ?_) ?_
      · simp (maxSteps := 4000000) only [↓reduceIte, Nat.reduceLT, Nat.reduceEqDiff, reduceCtorEq, Nat.reduceAdd, Nat.reduceMul, Int.reduceLE, Int.reduceLT, Int.reduceToNat, Nat.reduceLeDiff, Nat.reduceSub, Int.reduceEq, Nat.reduceBEq, evB]
        try rfl
      · simp (maxSteps := 4000000) only [↓reduceIte, Nat.reduceLT, Nat.reduceEqDiff, reduceCtorEq, Nat.reduceAdd, Nat.reduceMul, Int.reduceLE, Int.reduceLT, Int.reduceToNat, Nat.reduceLeDiff, Nat.reduceSub, Int.reduceEq, Nat.reduceBEq, evB]
        try rfl
      · intro s hs
        by_cases hslt : s < k
        · have d2 : decide ((s : Int) < (k : Int)) = true := by simpa using hslt
          have hpL := swpS_len N o s
          have hnx2 : swpS N o (s + 1) = swp1 N (swpS N o s) s := rfl
          generalize swpS N o s = p at *
          (repeat (first | refine awp_seq ?_ | refine awp_block ?_ | ((first | refine awp_skip ?_ | refine awp_exit ?_ | refine awp_reg ttok ?_ | (refine awp_draw ttok ?dr_calm ?_; (case dr_calm => decide +kernel)) | refine awp_condM ?_); simp (maxSteps := 4000000) only [↓reduceIte, Nat.reduceLT, Nat.reduceEqDiff, reduceCtorEq, Nat.reduceAdd, Nat.reduceMul, Int.reduceLE, Int.reduceLT, Int.reduceToNat, Nat.reduceLeDiff, Nat.reduceSub, Int.reduceEq, Nat.reduceBEq, evB, tyA, d2]; (repeat (with_reducible refine And.intro ?_ ?_; exact sdX)); (with_reducible first | refine awp_id ?_ | refine id_call ?_ | refine id_and ?_ | refine id_ex ?_ | refine id_all ?_ | refine id_nat ?_ | refine id_le ?_))))
          have hrow := h.get hslt
          refine awp_loop (X := Nat) (fun c => mkS 50 [(1, .ptr 1000 0 0), (3, .own 2000 0 k), (4, i64 r), (5, i64 s), (6, i64 c)] [(1000, { sz := 4, rows := [[i64 L, i64 st, .sl false (bos F), .sl false (iis N)]], flat := false }), (2000, { sz := 1, rows := bos (swpK N p s c) })]) (fun c => c ≤ L) (fun c => L - c) 0 (Nat.zero_le _) (mkS_le rfl ?_ ?_) ?_
          · simp (maxSteps := 4000000) only [↓reduceIte, Nat.reduceLT, Nat.reduceEqDiff, reduceCtorEq, Nat.reduceAdd, Nat.reduceMul, Int.reduceLE, Int.reduceLT, Int.reduceToNat, Nat.reduceLeDiff, Nat.reduceSub, Int.reduceEq, Nat.reduceBEq, evB]
            try rfl
          · simp (maxSteps := 4000000) only [↓reduceIte, Nat.reduceLT, Nat.reduceEqDiff, reduceCtorEq, Nat.reduceAdd, Nat.reduceMul, Int.reduceLE, Int.reduceLT, Int.reduceToNat, Nat.reduceLeDiff, Nat.reduceSub, Int.reduceEq, Nat.reduceBEq, evB, swpK_zero]
            try rfl
          · intro c hc
            by_cases hclt : c < L
            · have d3 : decide ((c : Int) < (L : Int)) = true := by simpa using hclt
              have hwi : IntKind.i64.wrap ((c : Int) + 1) = ((c + 1 : Nat) : Int) := i64_in (by omega) (by omega)
              have hgi := iis_get (l := N) (i := s) (by omega)
              have hgc := ints_get (l := N.getD s []) (i := c) (by omega)
              have hyes := swpK_yes (N := N) (o := p) (i := s) (k := c) (by omega)
              have hno := swpK_no (N := N) (o := p) (i := s) (k := c) (by omega)
              have hqL := swpK_len N p s c
              generalize swpK N p s c = q at *
              have hx : -1 ≤ (N.getD s []).getD c 0 ∧ (N.getD s []).getD c 0 < (k : Int) := by
                have hc' : c < (N.getD s []).length := by omega
                have e : (N.getD s []).getD c 0 = (N.getD s [])[c] := by
                  generalize N.getD s [] = w at hc' ⊢
                  simp [List.getD, List.getElem?_eq_getElem hc']
                rw [e]; exact hrow.2 _ (List.getElem_mem _)
              have hr1 := hrow.1
              generalize (N.getD s []).getD c 0 = x at *
              by_cases hx0 : x ≥ 0
              · obtain ⟨y, rfl⟩ := Int.eq_ofNat_of_zero_le hx0
                have e1 : decide (((y : Nat) : Int) ≥ 0) = true := by simp
                have hgb := bos_get (l := q) (i := y) (by omega)
                rw [e1, Bool.true_and, Int.toNat_natCast] at hyes hno
                cases hq : q.getD y false
                · rw [hq] at hgb
                  (repeat (first | refine awp_seq ?_ | refine awp_block ?_ | ((first | refine awp_skip ?_ | refine awp_exit ?_ | refine awp_reg ttok ?_ | (refine awp_draw ttok ?dr_calm ?_; (case dr_calm => decide +kernel)) | refine awp_condM ?_); simp (maxSteps := 4000000) only [↓reduceIte, Nat.reduceLT, Nat.reduceEqDiff, reduceCtorEq, Nat.reduceAdd, Nat.reduceMul, Int.reduceLE, Int.reduceLT, Int.reduceToNat, Nat.reduceLeDiff, Nat.reduceSub, Int.reduceEq, Nat.reduceBEq, evB, tyA, d3, hgi, iis_len, hl, ints_len, hr1, hgc, e1, bos_len, hqL, hpL, hoL, hF, hgb, hwi]; (repeat (with_reducible refine And.intro ?_ ?_; exact sdX)); (with_reducible first | refine awp_id ?_ | refine id_call ?_ | refine id_and ?_ | refine id_ex ?_ | refine id_all ?_ | refine id_nat ?_ | refine id_le ?_))))
                  refine ⟨c + 1, by omega, by omega, mkS_le rfl ?_ ?_⟩
                  · exact evX
                  · simp (maxSteps := 4000000) only [↓reduceIte, Nat.reduceLT, Nat.reduceEqDiff, reduceCtorEq, Nat.reduceAdd, Nat.reduceMul, Int.reduceLE, Int.reduceLT, Int.reduceToNat, Nat.reduceLeDiff, Nat.reduceSub, Int.reduceEq, Nat.reduceBEq, evB, hno hq]
                · rw [hq] at hgb
                  (repeat (first | refine awp_seq ?_ | refine awp_block ?_ | ((first | refine awp_skip ?_ | refine awp_exit ?_ | refine awp_reg ttok ?_ | (refine awp_draw ttok ?dr_calm ?_; (case dr_calm => decide +kernel)) | refine awp_condM ?_); simp (maxSteps := 4000000) only [↓reduceIte, Nat.reduceLT, Nat.reduceEqDiff, reduceCtorEq, Nat.reduceAdd, Nat.reduceMul, Int.reduceLE, Int.reduceLT, Int.reduceToNat, Nat.reduceLeDiff, Nat.reduceSub, Int.reduceEq, Nat.reduceBEq, evB, tyA, d3, hgi, iis_len, hl, ints_len, hr1, hgc, e1, bos_len, hqL, hpL, hoL, hF, hgb, hwi]; (repeat (with_reducible refine And.intro ?_ ?_; exact sdX)); (with_reducible first | refine awp_id ?_ | refine id_call ?_ | refine id_and ?_ | refine id_ex ?_ | refine id_all ?_ | refine id_nat ?_ | refine id_le ?_))))
                  refine ⟨c + 1, by omega, by omega, mkS_le rfl ?_ ?_⟩
                  · exact evX
                  · have hgs := bos_get (l := q) (i := s) (by omega)
                    have hse : (bos q).set s [D.v (Value.bool true)] = bos (q.set s true) := bos_set q s true
                    simp (maxSteps := 4000000) only [↓reduceIte, Nat.reduceLT, Nat.reduceEqDiff, reduceCtorEq, Nat.reduceAdd, Nat.reduceMul, Int.reduceLE, Int.reduceLT, Int.reduceToNat, Nat.reduceLeDiff, Nat.reduceSub, Int.reduceEq, Nat.reduceBEq, evB, hyes hq, hgs, hse]
              · have e1 : decide (x ≥ 0) = false := by simpa using hx0
                rw [e1, Bool.false_and] at hno
                (repeat (first | refine awp_seq ?_ | refine awp_block ?_ | ((first | refine awp_skip ?_ | refine awp_exit ?_ | refine awp_reg ttok ?_ | (refine awp_draw ttok ?dr_calm ?_; (case dr_calm => decide +kernel)) | refine awp_condM ?_); simp (maxSteps := 4000000) only [↓reduceIte, Nat.reduceLT, Nat.reduceEqDiff, reduceCtorEq, Nat.reduceAdd, Nat.reduceMul, Int.reduceLE, Int.reduceLT, Int.reduceToNat, Nat.reduceLeDiff, Nat.reduceSub, Int.reduceEq, Nat.reduceBEq, evB, tyA, d3, hgi, iis_len, hl, ints_len, hr1, hgc, e1, hwi]; (repeat (with_reducible refine And.intro ?_ ?_; exact sdX)); (with_reducible first | refine awp_id ?_ | refine id_call ?_ | refine id_and ?_ | refine id_ex ?_ | refine id_all ?_ | refine id_nat ?_ | refine id_le ?_))))
                refine ⟨c + 1, by omega, by omega, mkS_le rfl ?_ ?_⟩
                · exact evX
                · simp (maxSteps := 4000000) only [↓reduceIte, Nat.reduceLT, Nat.reduceEqDiff, reduceCtorEq, Nat.reduceAdd, Nat.reduceMul, Int.reduceLE, Int.reduceLT, Int.reduceToNat, Nat.reduceLeDiff, Nat.reduceSub, Int.reduceEq, Nat.reduceBEq, evB, hno rfl]
            · have d3 : decide ((c : Int) < (L : Int)) = false := by simpa using hclt
              have he := swpK_all N p s c (by have := hrow.1; omega)
              have hwi : IntKind.i64.wrap ((s : Int) + 1) = ((s + 1 : Nat) : Int) := i64_in (by omega) (by omega)
              (repeat (first | refine awp_seq ?_ | refine awp_block ?_ | ((first | refine awp_skip ?_ | refine awp_exit ?_ | refine awp_reg ttok ?_ | (refine awp_draw ttok ?dr_calm ?_; (case dr_calm => decide +kernel)) | refine awp_condM ?_); simp (maxSteps := 4000000) only [↓reduceIte, Nat.reduceLT, Nat.reduceEqDiff, reduceCtorEq, Nat.reduceAdd, Nat.reduceMul, Int.reduceLE, Int.reduceLT, Int.reduceToNat, Nat.reduceLeDiff, Nat.reduceSub, Int.reduceEq, Nat.reduceBEq, evB, tyA, d3, hwi]; (repeat (with_reducible refine And.intro ?_ ?_; exact sdX)); (with_reducible first | refine awp_id ?_ | refine id_call ?_ | refine id_and ?_ | refine id_ex ?_ | refine id_all ?_ | refine id_nat ?_ | refine id_le ?_))))
              refine ⟨s + 1, by omega, by omega, mkS_le rfl ?_ ?_⟩
              · exact evX
              · simp (maxSteps := 4000000) only [↓reduceIte, Nat.reduceLT, Nat.reduceEqDiff, reduceCtorEq, Nat.reduceAdd, Nat.reduceMul, Int.reduceLE, Int.reduceLT, Int.reduceToNat, Nat.reduceLeDiff, Nat.reduceSub, Int.reduceEq, Nat.reduceBEq, evB, hnx2, he]
        · have d2 : decide ((s : Int) < (k : Int)) = false := by simpa using hslt
          obtain rfl : s = k := by omega
          have hwi : IntKind.i64.wrap ((r : Int) + 1) = ((r + 1 : Nat) : Int) := i64_in (by omega) (by omega)
          (repeat (first | refine awp_seq ?_ | refine awp_block ?_ | ((first | refine awp_skip ?_ | refine awp_exit ?_ | refine awp_reg ttok ?_ | (refine awp_draw ttok ?dr_calm ?_; (case dr_calm => decide +kernel)) | refine awp_condM ?_); simp (maxSteps := 4000000) only [↓reduceIte, Nat.reduceLT, Nat.reduceEqDiff, reduceCtorEq, Nat.reduceAdd, Nat.reduceMul, Int.reduceLE, Int.reduceLT, Int.reduceToNat, Nat.reduceLeDiff, Nat.reduceSub, Int.reduceEq, Nat.reduceBEq, evB, tyA, d2, hwi]; (repeat (with_reducible refine And.intro ?_ ?_; exact sdX)); (with_reducible first | refine awp_id ?_ | refine id_call ?_ | refine id_and ?_ | refine id_ex ?_ | refine id_all ?_ | refine id_nat ?_ | refine id_le ?_))))
          refine ⟨r + 1, by omega, by omega, mkS_le rfl ?_ ?_⟩
          · exact evX
          · have he : swpS N o s = swpI N F (r + 1) := by rw [hnx, swp, hl]
            simp (maxSteps := 4000000) only [↓reduceIte, Nat.reduceLT, Nat.reduceEqDiff, reduceCtorEq, Nat.reduceAdd, Nat.reduceMul, Int.reduceLE, Int.reduceLT, Int.reduceToNat, Nat.reduceLeDiff, Nat.reduceSub, Int.reduceEq, Nat.reduceBEq, evB, he]
    · have d1 : decide ((r : Int) < (k : Int)) = false := by simpa using hlt
      obtain rfl : r = k := by omega
      have he : swpI N F r = liveL F N := by rw [liveL, hF]
      have hlL := liveL_len F N
      (repeat (first | refine awp_seq ?_ | refine awp_block ?_ | ((first | refine awp_skip ?_ | refine awp_exit ?_ | refine awp_reg ttok ?_ | (refine awp_draw ttok ?dr_calm ?_; (case dr_calm => decide +kernel)) | refine awp_condM ?_); simp (maxSteps := 4000000) only [↓reduceIte, Nat.reduceLT, Nat.reduceEqDiff, reduceCtorEq, Nat.reduceAdd, Nat.reduceMul, Int.reduceLE, Int.reduceLT, Int.reduceToNat, Nat.reduceLeDiff, Nat.reduceSub, Int.reduceEq, Nat.reduceBEq, evB, tyA, d1]; (repeat (with_reducible refine And.intro ?_ ?_; exact sdX)); (with_reducible first | refine awp_id ?_ | refine id_call ?_ | refine id_and ?_ | refine id_ex ?_ | refine id_all ?_ | refine id_nat ?_ | refine id_le ?_))))
      refine awp_pure 2 (d := .own 2000 0 r) evX (by simp (maxSteps := 4000000) only [↓reduceIte, Nat.reduceLT, Nat.reduceEqDiff, reduceCtorEq, Nat.reduceAdd, Nat.reduceMul, Int.reduceLE, Int.reduceLT, Int.reduceToNat, Nat.reduceLeDiff, Nat.reduceSub, Int.reduceEq, Nat.reduceBEq, evB, he]; rfl) (by simp (maxSteps := 4000000) only [↓reduceIte, Nat.reduceLT, Nat.reduceEqDiff, reduceCtorEq, Nat.reduceAdd, Nat.reduceMul, Int.reduceLE, Int.reduceLT, Int.reduceToNat, Nat.reduceLeDiff, Nat.reduceSub, Int.reduceEq, Nat.reduceBEq, evB, bos_len, hlL, hF]) ?_
      have hft : List.take r (liveL F N) = liveL F N := List.take_of_length_le (by omega)
      refine awp_ret (ends_plain (.inr rfl) rfl ?_)
      simp (maxSteps := 4000000) only [↓reduceIte, Nat.reduceLT, Nat.reduceEqDiff, reduceCtorEq, Nat.reduceAdd, Nat.reduceMul, Int.reduceLE, Int.reduceLT, Int.reduceToNat, Nat.reduceLeDiff, Nat.reduceSub, Int.reduceEq, Nat.reduceBEq, evB, bos_take, hft]
end Go.Proofs.Ytglcnghfmdcdpaa
