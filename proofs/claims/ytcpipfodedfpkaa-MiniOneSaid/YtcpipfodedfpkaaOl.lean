import Derived.Test.YtcpipfodedfpkaaFin
import Derived.Test.YtcpipfodedfpkaaTy
set_option linter.unusedSimpArgs false
set_option linter.unusedVariables false
namespace Go.Proofs.Ytcpipfodedfpkaa
open Go.Ab
def swp1 (N : List (List Int)) (o : List Bool) (i : Nat) : List Bool := if ((N.getD i []).any fun s => decide (s ≥ 0) && o.getD s.toNat false) = true then o.set i true else o
def swpS (N : List (List Int)) (o : List Bool) : Nat → List Bool
  | 0 => o
  | i + 1 => swp1 N (swpS N o i) i
def swp (N : List (List Int)) (o : List Bool) : List Bool := swpS N o N.length
def swpI (N : List (List Int)) (o : List Bool) : Nat → List Bool
  | 0 => o
  | r + 1 => swp N (swpI N o r)
def liveL (F : List Bool) (N : List (List Int)) : List Bool := swpI N F F.length
theorem swp1_len (N : List (List Int)) (o : List Bool) (i : Nat) : (swp1 N o i).length = o.length := by
  unfold swp1; split <;> simp
theorem swpS_len (N : List (List Int)) (o : List Bool) : ∀ i, (swpS N o i).length = o.length
  | 0 => rfl
  | i + 1 => by rw [swpS, swp1_len, swpS_len N o i]
theorem swp_len (N : List (List Int)) (o : List Bool) : (swp N o).length = o.length := swpS_len N o _
theorem swpI_len (N : List (List Int)) (o : List Bool) : ∀ r, (swpI N o r).length = o.length
  | 0 => rfl
  | r + 1 => by rw [swpI, swp_len, swpI_len N o r]
def bleB (o p : List Bool) : Prop := o.length = p.length ∧ ∀ j, o.getD j false = true → p.getD j false = true
theorem bleB_refl (o : List Bool) : bleB o o := ⟨rfl, fun _ h => h⟩
theorem bleB_trans {o p q : List Bool} (h : bleB o p) (k : bleB p q) : bleB o q := ⟨h.1.trans k.1, fun j g => k.2 j (h.2 j g)⟩
theorem set_ble (o : List Bool) (i : Nat) : bleB o (o.set i true) := by
  refine ⟨by simp, fun j h => ?_⟩
  simp only [List.getD, List.getElem?_set] at h ⊢
  split
  · split
    · rfl
    · rename_i h1 h2
      rw [List.getElem?_eq_none (by omega)] at h; cases h
  · exact h
theorem swp1_ble (N : List (List Int)) (o : List Bool) (i : Nat) : bleB o (swp1 N o i) := by
  unfold swp1; split
  · exact set_ble o i
  · exact bleB_refl o
theorem swpS_ble (N : List (List Int)) (o : List Bool) : ∀ i, bleB o (swpS N o i)
  | 0 => bleB_refl o
  | i + 1 => bleB_trans (swpS_ble N o i) (swp1_ble N _ i)
theorem swp_ble (N : List (List Int)) (o : List Bool) : bleB o (swp N o) := swpS_ble N o _
theorem swpI_ble (N : List (List Int)) (o : List Bool) : ∀ r, bleB o (swpI N o r)
  | 0 => bleB_refl o
  | r + 1 => bleB_trans (swpI_ble N o r) (swp_ble N _)
theorem ble_count : ∀ {o p : List Bool}, bleB o p → o.count true ≤ p.count true ∧ (o.count true = p.count true → o = p)
  | [], [], _ => ⟨Nat.le_refl _, fun _ => rfl⟩
  | [], _ :: _, h => by have := h.1; simp at this
  | _ :: _, [], h => by have := h.1; simp at this
  | a :: o, b :: p, h => by
    have h1 : bleB o p := ⟨by have := h.1; simpa using this, fun j g => by have := h.2 (j + 1); simpa using this (by simpa using g)⟩
    obtain ⟨g1, g2⟩ := ble_count h1
    have h0 : a = true → b = true := by have := h.2 0; simpa using this
    cases a <;> cases b
    · simp only [List.count_cons]; refine ⟨by simpa using g1, fun e => ?_⟩
      rw [g2 (by simpa using e)]
    · simp only [List.count_cons]
      refine ⟨by simp; omega, fun e => ?_⟩
      simp at e; omega
    · cases h0 rfl
    · simp only [List.count_cons]; refine ⟨by simpa using g1, fun e => ?_⟩
      rw [g2 (by simpa using e)]
theorem swpI_stable {N : List (List Int)} {o : List Bool} {r : Nat} (h : swp N (swpI N o r) = swpI N o r) : ∀ k, swpI N o (r + k) = swpI N o r
  | 0 => rfl
  | k + 1 => by rw [← Nat.add_assoc, swpI, swpI_stable h k, h]
theorem swpI_grows {N : List (List Int)} {o : List Bool} : ∀ r, (∃ q, q ≤ r ∧ swp N (swpI N o q) = swpI N o q) ∨ r + 1 ≤ (swpI N o (r + 1)).count true
  | 0 => by
    by_cases h : swp N (swpI N o 0) = swpI N o 0
    · exact .inl ⟨0, Nat.le_refl _, h⟩
    · right
      have hb := ble_count (swp_ble N (swpI N o 0))
      have : (swpI N o 0).count true ≠ (swp N (swpI N o 0)).count true := fun e => h (hb.2 e).symm
      have e : swpI N o (0 + 1) = swp N (swpI N o 0) := rfl
      rw [e]; omega
  | r + 1 => by
    rcases swpI_grows (N := N) (o := o) r with ⟨q, h1, h2⟩ | h
    · exact .inl ⟨q, by omega, h2⟩
    · by_cases hs : swp N (swpI N o (r + 1)) = swpI N o (r + 1)
      · exact .inl ⟨r + 1, Nat.le_refl _, hs⟩
      · right
        have hb := ble_count (swp_ble N (swpI N o (r + 1)))
        have : (swpI N o (r + 1)).count true ≠ (swp N (swpI N o (r + 1))).count true := fun e => hs (hb.2 e).symm
        have e : swpI N o (r + 1 + 1) = swp N (swpI N o (r + 1)) := rfl
        rw [e]; omega
theorem liveL_stable (F : List Bool) (N : List (List Int)) : swp N (liveL F N) = liveL F N := by
  have key : ∃ q, q ≤ F.length ∧ swp N (swpI N F q) = swpI N F q := by
    rcases swpI_grows (N := N) (o := F) F.length with h | h
    · exact h
    · exfalso
      have h1 := List.count_le_length (a := true) (l := swpI N F (F.length + 1))
      rw [swpI_len] at h1; omega
  obtain ⟨q, h1, h2⟩ := key
  have := swpI_stable h2 (F.length - q)
  rw [show q + (F.length - q) = F.length by omega] at this
  unfold liveL
  rw [this]; exact h2
theorem liveL_of {F : List Bool} {N : List (List Int)} {r : Nat} (h : swp N (swpI N F r) = swpI N F r) : swpI N F r = liveL F N := by
  have h2 := liveL_stable F N
  rcases Nat.le_total r F.length with q | q
  · have := swpI_stable h (F.length - r)
    rw [show r + (F.length - r) = F.length by omega] at this
    exact this.symm
  · have := swpI_stable (r := F.length) h2 (r - F.length)
    rw [show F.length + (r - F.length) = r by omega] at this
    exact this
theorem liveL_len (F : List Bool) (N : List (List Int)) : (liveL F N).length = F.length := swpI_len N F _
theorem liveL_fin {F : List Bool} {N : List (List Int)} {s : Nat} (h : F.getD s false = true) : (liveL F N).getD s false = true := (swpI_ble N F _).2 s h
theorem swpS_eq {N : List (List Int)} {o : List Bool} (h : swp N o = o) : ∀ i, i ≤ N.length → swpS N o i = o := by
  intro i hi
  have h1 : bleB o (swpS N o i) := swpS_ble N o i
  have h2 : ∀ k, bleB (swpS N o i) (swpS N o (i + k)) := fun k => by
    induction k with
    | zero => exact bleB_refl _
    | succ k ih => exact bleB_trans ih (swp1_ble N _ _)
  have h3 := h2 (N.length - i)
  rw [show i + (N.length - i) = N.length by omega, show swpS N o N.length = o from h] at h3
  have c1 := ble_count h1
  have c2 := ble_count h3
  exact (c1.2 (by omega)).symm
theorem liveL_step {F : List Bool} {N : List (List Int)} {s : Nat} {t : Int} (hs : s < N.length) (hl : N.length = F.length) (hm : t ∈ N.getD s []) (h0 : 0 ≤ t) (ht : (liveL F N).getD t.toNat false = true) : (liveL F N).getD s false = true := by
  have h1 := swpS_eq (liveL_stable F N) s (by omega)
  have h2 := swpS_eq (liveL_stable F N) (s + 1) (by omega)
  rw [swpS, h1, swp1, if_pos (by rw [List.any_eq_true]; exact ⟨t, hm, by rw [ht, Bool.and_true]; simpa using h0⟩)] at h2
  rw [← h2]
  have hsl : s < (liveL F N).length := by rw [liveL_len]; omega
  simp [List.getD, List.getElem?_set, hsl]
inductive Lv (F : List Bool) (N : List (List Int)) : Nat → Prop
  | fin {s : Nat} (h : F.getD s false = true) : Lv F N s
  | step {s : Nat} {t : Int} (hm : t ∈ N.getD s []) (h0 : 0 ≤ t) (h : Lv F N t.toNat) : Lv F N s
theorem swp1_lv {F : List Bool} {N : List (List Int)} {o : List Bool} {i : Nat} (h : ∀ j, o.getD j false = true → Lv F N j) : ∀ j, (swp1 N o i).getD j false = true → Lv F N j := by
  intro j hj
  unfold swp1 at hj
  split at hj
  · rename_i ha
    by_cases hij : i = j
    · subst hij
      obtain ⟨t, ht, hp⟩ := List.any_eq_true.1 ha
      simp only [Bool.and_eq_true, decide_eq_true_eq] at hp
      exact .step ht hp.1 (h _ hp.2)
    · simp only [List.getD, List.getElem?_set_ne hij] at hj
      exact h j hj
  · exact h j hj
theorem swpS_lv {F : List Bool} {N : List (List Int)} {o : List Bool} (h : ∀ j, o.getD j false = true → Lv F N j) : ∀ i j, (swpS N o i).getD j false = true → Lv F N j
  | 0 => h
  | i + 1 => swp1_lv (swpS_lv h i)
theorem swpI_lv {F : List Bool} {N : List (List Int)} : ∀ r j, (swpI N F r).getD j false = true → Lv F N j
  | 0 => fun _ h => .fin h
  | r + 1 => swpS_lv (swpI_lv r) _
theorem liveL_lv {F : List Bool} {N : List (List Int)} {s : Nat} (h : (liveL F N).getD s false = true) : Lv F N s := swpI_lv _ s h
def lowB (m : Nat) (c : Int) : Nat := (BitVec.ofInt IntKind.i64.bits c &&& BitVec.ofInt IntKind.i64.bits (m : Int)).toNat
theorem lowB_le (m : Nat) (c : Int) (hm : m ≤ 2147483647) : lowB m c ≤ m := by
  rw [lowB, BitVec.toNat_and]
  refine Nat.le_trans Nat.and_le_right ?_
  simp only [BitVec.toNat_ofInt]
  have : ((m : Int) % ((2 ^ IntKind.i64.bits : Nat) : Int)).toNat = m % 2 ^ IntKind.i64.bits := by
    rw [← Int.natCast_emod]; rfl
  rw [this]
  exact Nat.mod_le _ _
theorem lowB_wrap (m : Nat) (c : Int) (hm : m ≤ 2147483647) : IntKind.i64.wrap ((BitVec.ofInt IntKind.i64.bits c &&& BitVec.ofInt IntKind.i64.bits (m : Int)).toNat : Int) = (lowB m c : Int) := by
  have h := lowB_le m c hm
  exact i64_in (by omega) (by unfold lowB at h; omega)
theorem lowW1 (c : Int) : IntKind.i64.wrap ((BitVec.ofInt IntKind.i64.bits c &&& BitVec.ofInt IntKind.i64.bits 1).toNat : Int) = (lowB 1 c : Int) := lowB_wrap 1 c (by decide)
theorem lowW3 (c : Int) : IntKind.i64.wrap ((BitVec.ofInt IntKind.i64.bits c &&& BitVec.ofInt IntKind.i64.bits 3).toNat : Int) = (lowB 3 c : Int) := lowB_wrap 3 c (by decide)
theorem lowW7 (c : Int) : IntKind.i64.wrap ((BitVec.ofInt IntKind.i64.bits c &&& BitVec.ofInt IntKind.i64.bits 7).toNat : Int) = (lowB 7 c : Int) := lowB_wrap 7 c (by decide)
theorem lowW255 (c : Int) : IntKind.i64.wrap ((BitVec.ofInt IntKind.i64.bits c &&& BitVec.ofInt IntKind.i64.bits 255).toNat : Int) = (lowB 255 c : Int) := lowB_wrap 255 c (by decide)
theorem tmodN (a b : Nat) : Int.tmod (a : Int) (b : Int) = ((a % b : Nat) : Int) := rfl
def iis (l : List (List Int)) : List (List D) := l.map fun x => [.sl false (ints x)]
theorem iis_len (l : List (List Int)) : (iis l).length = l.length := by simp [iis]
theorem iis_row (l : List (List Int)) : (∀ row ∈ iis l, row.length = 1) = True := by simp [iis]
theorem iis_get {l : List (List Int)} {i : Nat} (h : i < l.length) : (iis l).getD i [] = [.sl false (ints (l.getD i []))] := by
  simp [iis, List.getD, List.getElem?_eq_getElem h]
theorem iis_app (l m : List (List Int)) : iis l ++ iis m = iis (l ++ m) := by simp [iis]
theorem iis_take (l : List (List Int)) (k : Nat) : (iis l).take k = iis (l.take k) := by simp [iis]
theorem iis_one (z : List Int) : [[D.sl false (ints z)]] = iis [z] := rfl
def bos (l : List Bool) : List (List D) := l.map fun b => [bo b]
theorem bos_len (l : List Bool) : (bos l).length = l.length := by simp [bos]
theorem bos_row (l : List Bool) : (∀ row ∈ bos l, row.length = 1) = True := by
  simp only [bos, List.mem_map, eq_iff_iff, iff_true]
  rintro row ⟨x, _, rfl⟩; rfl
theorem bos_get {l : List Bool} {i : Nat} (h : i < l.length) : (bos l).getD i [] = [bo (l.getD i false)] := by
  simp [bos, List.getD, List.getElem?_eq_getElem h]
theorem bos_app (l m : List Bool) : bos l ++ bos m = bos (l ++ m) := by simp [bos]
theorem bos_take (l : List Bool) (k : Nat) : (bos l).take k = bos (l.take k) := by simp [bos]
theorem bos_one (b : Bool) : [[bo b]] = bos [b] := rfl
theorem bos_set (l : List Bool) (j : Nat) (b : Bool) : (bos l).set j [bo b] = bos (l.set j b) := by simp [bos]
theorem bos_nil (l : List Bool) : (bos l = []) = (l = []) := by simp [bos]
def numD (z : Int) : Nat := lowB 7 z + 1
def startD (z : Int) : Nat := lowB 255 (z.fdiv (2 ^ min 3 IntKind.i64.bits)) % numD z
theorem numD_le (z : Int) : 1 ≤ numD z ∧ numD z ≤ 8 := by
  have h1 := lowB_le 7 z (by decide)
  unfold numD; omega
theorem startD_lt (z : Int) : startD z < numD z := Nat.mod_lt _ (by have := numD_le z; omega)
def finD (f : Int) (n : Nat) : List Bool := (List.range n).map fun i => ((lowB 1 (f.fdiv (2 ^ min i IntKind.i64.bits)) : Int) == 1)
theorem finD_len (f : Int) (n : Nat) : (finD f n).length = n := by simp [finD]
def negs (n : Nat) : List Int := List.replicate n (-1)
def mvF (k : Nat) (x : Int × Int × Int) : Nat := lowB 255 x.1 % k
def mvT (k : Nat) (x : Int × Int × Int) : Nat := lowB 255 x.2.1 % k
structure NOk (L k : Nat) (N : List (List Int)) : Prop where
  len : N.length = k
  row : ∀ r ∈ N, r.length = L ∧ ∀ t ∈ r, -1 ≤ t ∧ t < (k : Int)
theorem NOk.get {L k : Nat} {N : List (List Int)} (h : NOk L k N) {s : Nat} (hs : s < k) : (N.getD s []).length = L ∧ ∀ t ∈ N.getD s [], -1 ≤ t ∧ t < (k : Int) := by
  have hl := h.len
  have e : N.getD s [] = N[s]'(by omega) := by simp [List.getD, List.getElem?_eq_getElem (show s < N.length by omega)]
  rw [e]; exact h.row _ (List.getElem_mem _)
def toD (N : List (List Int)) (s k : Int) : Int := if s < 0 ∨ (N.length : Int) ≤ s ∨ k < 0 ∨ ((N.getD s.toNat []).length : Int) ≤ k then -1 else (N.getD s.toNat []).getD k.toNat 0
def runD (N : List (List Int)) : Int → List Int → Int
  | s, [] => s
  | s, k :: w => if s < 0 then s else runD N (toD N s k) w
def endsD (F : List Bool) (N : List (List Int)) (s : Int) (w : List Int) : Bool := decide (0 ≤ runD N s w) && F.getD (runD N s w).toNat false
theorem toD_ok {L k : Nat} {N : List (List Int)} (h : NOk L k N) (s c : Int) : -1 ≤ toD N s c ∧ toD N s c < (k : Int) ∨ toD N s c = -1 := by
  unfold toD
  split
  · exact .inr rfl
  · rename_i hn
    have hl := h.len
    have hs : s.toNat < k := by omega
    obtain ⟨g1, g2⟩ := h.get hs
    have hc : c.toNat < (N.getD s.toNat []).length := by omega
    left
    have e : (N.getD s.toNat []).getD c.toNat 0 = (N.getD s.toNat [])[c.toNat] := by
      generalize N.getD s.toNat [] = r at hc ⊢
      simp [List.getD, List.getElem?_eq_getElem hc]
    rw [e]; exact g2 _ (List.getElem_mem _)
def wordsL (L : Nat) : Nat → List (List Int)
  | 0 => [[]]
  | n + 1 => (wordsL L n).flatMap fun w => (List.range L).map fun (a : Nat) => w ++ [(a : Int)]
def uptoL (L : Nat) : Nat → List (List Int)
  | 0 => wordsL L 0
  | n + 1 => uptoL L n ++ wordsL L (n + 1)
theorem wordsL_len (L : Nat) : ∀ n, (wordsL L n).length = L ^ n
  | 0 => rfl
  | n + 1 => by
    have key : ∀ l : List (List Int), (l.flatMap fun w => (List.range L).map fun (a : Nat) => w ++ [(a : Int)]).length = l.length * L := fun l => by
      induction l with
      | nil => simp
      | cons x l ih => simp [ih, Nat.add_mul, Nat.add_comm]
    rw [wordsL, key, wordsL_len L n, Nat.pow_succ]
theorem wordsL_mem {L : Nat} : ∀ {n : Nat} {w : List Int}, w ∈ wordsL L n ↔ w.length = n ∧ ∀ x ∈ w, 0 ≤ x ∧ x < (L : Int)
  | 0, w => by
    simp only [wordsL, List.mem_singleton]
    constructor
    · rintro rfl; simp
    · rintro ⟨h, _⟩; exact List.length_eq_zero_iff.1 h
  | n + 1, w => by
    simp only [wordsL, List.mem_flatMap, List.mem_map, List.mem_range]
    constructor
    · rintro ⟨v, hv, a, ha, rfl⟩
      obtain ⟨h1, h2⟩ := wordsL_mem.1 hv
      refine ⟨by simp [h1], fun x hx => ?_⟩
      rcases List.mem_append.1 hx with q | q
      · exact h2 x q
      · rw [List.mem_singleton.1 q]; omega
    · rintro ⟨h1, h2⟩
      have hne : w ≠ [] := by rintro rfl; simp at h1
      have e := List.dropLast_concat_getLast hne
      have hx := h2 _ (List.getLast_mem hne)
      refine ⟨w.dropLast, wordsL_mem.2 ⟨by simp [h1], fun x hx => h2 x (List.dropLast_subset _ hx)⟩, (w.getLast hne).toNat, by omega, ?_⟩
      rw [show (((w.getLast hne).toNat : Nat) : Int) = w.getLast hne by omega]; exact e
theorem uptoL_mem {L : Nat} : ∀ {n : Nat} {w : List Int}, w ∈ uptoL L n ↔ w.length ≤ n ∧ ∀ x ∈ w, 0 ≤ x ∧ x < (L : Int)
  | 0, w => by rw [uptoL, wordsL_mem]; simp
  | n + 1, w => by
    rw [uptoL, List.mem_append, wordsL_mem, uptoL_mem]
    constructor
    · rintro (⟨h1, h2⟩ | ⟨h1, h2⟩)
      · exact ⟨by omega, h2⟩
      · exact ⟨by omega, h2⟩
    · rintro ⟨h1, h2⟩
      rcases Nat.lt_or_ge n w.length with q | q
      · exact .inr ⟨by omega, h2⟩
      · exact .inl ⟨q, h2⟩
theorem toD_mem {N : List (List Int)} {s k : Int} (h : 0 ≤ toD N s k) : 0 ≤ s ∧ s.toNat < N.length ∧ toD N s k ∈ N.getD s.toNat [] := by
  unfold toD at h ⊢
  split at h
  · omega
  · rename_i hn
    refine ⟨by omega, by omega, ?_⟩
    rw [if_neg hn]
    have hc : k.toNat < (N.getD s.toNat []).length := by omega
    generalize N.getD s.toNat [] = r at hc ⊢
    simp [List.getD, List.getElem?_eq_getElem hc]
theorem toD_of {N : List (List Int)} {s : Nat} {t : Int} (hs : s < N.length) (ht : t ∈ N.getD s []) : ∃ k : Nat, k < (N.getD s []).length ∧ toD N s k = t := by
  obtain ⟨k, hk, rfl⟩ := List.getElem_of_mem ht
  refine ⟨k, hk, ?_⟩
  unfold toD
  rw [if_neg (by rw [Int.toNat_natCast]; omega), Int.toNat_natCast, Int.toNat_natCast]
  generalize N.getD s [] = r at hk ⊢
  simp [List.getD, List.getElem?_eq_getElem hk]
theorem runD_neg {N : List (List Int)} : ∀ {w : List Int} {s : Int}, s < 0 → runD N s w = s
  | [], s, _ => rfl
  | k :: w, s, h => by rw [runD, if_pos h]
theorem runD_app {N : List (List Int)} : ∀ {w : List Int} {s : Int} {k : Int}, runD N s (w ++ [k]) = if runD N s w < 0 then runD N s w else toD N (runD N s w) k
  | [], s, k => by by_cases h : s < 0 <;> simp [runD, h]
  | x :: w, s, k => by
    rw [List.cons_append, runD, runD]
    by_cases h : s < 0
    · rw [if_pos h, if_pos h, if_pos h]
    · rw [if_neg h, if_neg h, runD_app]
theorem lv_of_run {F : List Bool} {N : List (List Int)} : ∀ {w : List Int} {s : Int}, 0 ≤ s → endsD F N s w = true → Lv F N s.toNat
  | [], s, h0, h => by
    simp only [endsD, runD, Bool.and_eq_true] at h
    exact .fin h.2
  | k :: w, s, h0, h => by
    have hr : runD N s (k :: w) = runD N (toD N s k) w := by rw [runD, if_neg (by omega)]
    have h' : endsD F N (toD N s k) w = true := by unfold endsD at h ⊢; rw [hr] at h; exact h
    have ht : 0 ≤ toD N s k := by
      rcases Int.lt_or_le (toD N s k) 0 with q | q
      · simp only [endsD, runD_neg q, Bool.and_eq_true, decide_eq_true_eq] at h'
        omega
      · exact q
    exact .step (toD_mem ht).2.2 ht (lv_of_run ht h')
theorem run_of_lv {F : List Bool} {N : List (List Int)} (hl : F.length ≤ N.length) {s : Nat} (h : Lv F N s) : ∃ w, endsD F N s w = true := by
  induction h with
  | @fin s h => exact ⟨[], by simp only [endsD, runD, Int.toNat_natCast, h, Bool.and_true]; simp⟩
  | @step s t hm h0 h ih =>
    obtain ⟨w, hw⟩ := ih
    have hs : s < N.length := by
      rcases Nat.lt_or_ge s N.length with q | q
      · exact q
      · simp [List.getD, List.getElem?_eq_none q] at hm
    obtain ⟨k, _, hk⟩ := toD_of hs hm
    refine ⟨(k : Int) :: w, ?_⟩
    rw [show ((t.toNat : Nat) : Int) = t by omega] at hw
    unfold endsD at hw ⊢
    rw [runD, if_neg (by omega), hk]
    exact hw
theorem live_iff {F : List Bool} {N : List (List Int)} (hl : F.length = N.length) (hb : ∀ s, ∀ t ∈ N.getD s [], t < (N.length : Int)) {s : Nat} (hs : s < N.length) : (liveL F N).getD s false = true ↔ Lv F N s := by
  refine ⟨liveL_lv, fun h => ?_⟩
  induction h with
  | @fin s h => exact liveL_fin h
  | @step s t hm h0 h ih =>
    have := hb s t hm
    exact liveL_step hs hl.symm hm h0 (ih (by omega))
def fam (n : Nat) (g : Nat → AObj) : List (Nat × AObj) := (List.range n).map fun r => (r + 90000, g r)
theorem lk_none {α : Type} : ∀ {l : List (Nat × α)} {t : Nat}, (∀ x ∈ l, x.1 ≠ t) → lk l t = none
  | [], t, _ => rfl
  | (k, d) :: l, t, h => by
    rw [lk, if_neg (fun e => h (k, d) (by simp) e.symm)]
    exact lk_none fun x hx => h x (by simp [hx])
theorem lk_app {α : Type} : ∀ {l m : List (Nat × α)} {t : Nat}, lk (l ++ m) t = (match lk l t with | some d => some d | none => lk m t)
  | [], m, t => by simp [lk]
  | (k, d) :: l, m, t => by
    rw [List.cons_append, lk, lk]
    split
    · rfl
    · exact lk_app
theorem lk_fam {n : Nat} {g : Nat → AObj} {f : Nat} (h : f < n) : lk (fam n g) (f + 90000) = some (g f) := by
  induction n with
  | zero => omega
  | succ n ih =>
    rw [fam, List.range_succ, List.map_append, ← fam, lk_app]
    rcases Nat.lt_or_ge f n with q | q
    · rw [ih q]
    · have : f = n := by omega
      subst this
      rw [lk_none (by intro x hx; obtain ⟨r, hr, rfl⟩ := List.mem_map.1 hx; have := List.mem_range.1 hr; simp; omega)]
      simp [lk]
theorem knowsH_app {st : St} : ∀ {l m : List (Nat × AObj)}, KnowsH st (l ++ m) = (KnowsH st l ∧ KnowsH st m)
  | [], m => by simp [KnowsH]
  | (k, d) :: l, m => by rw [List.cons_append, KnowsH, KnowsH, knowsH_app, and_assoc]
theorem knowsH_iff {st : St} : ∀ {l : List (Nat × AObj)}, KnowsH st l ↔ ∀ x ∈ l, st.heap x.1 = some x.2
  | [] => by simp [KnowsH]
  | (k, d) :: l => by simp [KnowsH, knowsH_iff]
theorem knowsH_fam {st : St} {n : Nat} {g : Nat → AObj} : KnowsH st (fam n g) = ∀ r, r < n → st.heap (r + 90000) = some (g r) := by
  rw [eq_iff_iff, knowsH_iff]
  simp [fam]
theorem map90000_has {l : List Nat} {k : Nat} (h : decide (k < 90000) = true) : (l.map (· + 90000)).contains k = false := by
  have := of_decide_eq_true h
  simp only [List.contains_eq_mem, List.mem_map, decide_eq_false_iff_not]
  rintro ⟨r, _, q⟩; omega
def tri (l : List (Int × Int × Int)) : List (List D) := l.map fun x => [i64 x.1, i64 x.2.1, i64 x.2.2]
theorem tri_len (l : List (Int × Int × Int)) : (tri l).length = l.length := by simp [tri]
theorem tri_get {l : List (Int × Int × Int)} {i : Nat} (h : i < l.length) : (tri l).getD i [] = [i64 (l.getD i (0, 0, 0)).1, i64 (l.getD i (0, 0, 0)).2.1, i64 (l.getD i (0, 0, 0)).2.2] := by
  simp [tri, List.getD, List.getElem?_eq_getElem h]
def negP (L j : Nat) : List Int := List.replicate j (-1) ++ List.replicate (L - j) 0
theorem negP_zero (L : Nat) : negP L 0 = List.replicate L 0 := by simp [negP]
theorem negP_all (L : Nat) : negP L L = negs L := by simp [negP, negs]
theorem negP_len {L j : Nat} (h : j ≤ L) : (negP L j).length = L := by simp [negP]; omega
theorem negP_set {L j : Nat} (h : j < L) : (negP L j).set j (-1) = negP L (j + 1) := by
  rw [negP, List.set_append_right _ _ (by simp), List.length_replicate, Nat.sub_self, show L - j = (L - (j + 1)) + 1 by omega, List.replicate_succ, List.set_cons_zero, negP, List.replicate_succ', List.append_assoc]; rfl
def dfaD (L s : Nat) (F : List Bool) (N : List (List Int)) : D := .agg [i64 L, i64 s, .sl false (bos F), .sl false (iis N)]
theorem take_snoc {α : Type} {l : List α} {k : Nat} (hk : k < l.length) (d : α) : l.take (k + 1) = l.take k ++ [l.getD k d] := by
  rw [List.take_add_one, List.getElem?_eq_getElem hk]; simp [List.getD, List.getElem?_eq_getElem hk]
def kLo (x : Int) : UInt8 := UInt8.ofNat (IntKind.u8.wrap x).toNat
def kHi (x : Int) : UInt8 := UInt8.ofNat (IntKind.u8.wrap (x.fdiv (2 ^ min 8 IntKind.i64.bits))).toNat
theorem wrap_u8 (x : Int) : IntKind.u8.wrap x = x % 256 := by
  simp only [IntKind.wrap, IntKind.bits, IntKind.signed, Bool.false_eq_true, if_false]
  rfl
theorem u8_back (x : Int) : ((UInt8.ofNat (x % 256).toNat).toNat : Int) = x % 256 := by
  have h1 : 0 ≤ x % 256 := Int.emod_nonneg _ (by decide)
  have h2 : x % 256 < 256 := Int.emod_lt_of_pos _ (by decide)
  rw [UInt8.toNat_ofNat']
  omega
theorem kLo_val (x : Int) : D.v (.int .u8 (IntKind.u8.wrap x)) = u8 (kLo x) := by
  rw [u8, kLo, wrap_u8, u8_back]
theorem kHi_val (x : Int) : D.v (.int .u8 (IntKind.u8.wrap (x.fdiv (2 ^ min 8 IntKind.i64.bits)))) = u8 (kHi x) := by
  rw [u8, kHi, wrap_u8, u8_back]
theorem kLH {x y : Int} (hx : -1 ≤ x ∧ x < 65535) (hy : -1 ≤ y ∧ y < 65535) (h1 : kLo x = kLo y) (h2 : kHi x = kHi y) : x = y := by
  have m : min 8 IntKind.i64.bits = 8 := rfl
  have e1 : x % 256 = y % 256 := by
    rw [← u8_back x, ← u8_back y, ← wrap_u8, ← wrap_u8]
    exact congrArg (fun b : UInt8 => ((b.toNat : Nat) : Int)) h1
  have e2 : (x / 256) % 256 = (y / 256) % 256 := by
    unfold kHi at h2
    rw [m, wrap_u8, wrap_u8] at h2
    have := congrArg (fun b : UInt8 => ((b.toNat : Nat) : Int)) h2
    simp only [u8_back] at this
    rw [Int.fdiv_eq_ediv_of_nonneg _ (by decide), Int.fdiv_eq_ediv_of_nonneg _ (by decide)] at this
    exact this
  omega
def kBy (l : List Int) : List UInt8 := l.flatMap fun x => [kLo x, kHi x]
def kStr (l : List Int) : ByteArray := ⟨(kBy l).toArray⟩
theorem kBy_snoc (l : List Int) (x : Int) : kBy (l ++ [x]) = kBy l ++ [kLo x, kHi x] := by simp [kBy]
theorem kBy_len (l : List Int) : (kBy l).length = 2 * l.length := by
  induction l with
  | nil => rfl
  | cons x l ih => rw [kBy, List.flatMap_cons, List.length_append, show (l.flatMap fun x => [kLo x, kHi x]) = kBy l from rfl, ih]; simp; omega
theorem kBy_inj : ∀ {l m : List Int}, (∀ x ∈ l, -1 ≤ x ∧ x < 65535) → (∀ x ∈ m, -1 ≤ x ∧ x < 65535) → kBy l = kBy m → l = m
  | [], [], _, _, _ => rfl
  | [], _ :: _, _, _, h => by simp [kBy] at h
  | _ :: _, [], _, _, h => by simp [kBy] at h
  | x :: l, y :: m, hl, hm, h => by
    simp only [kBy, List.flatMap_cons, List.cons_append, List.nil_append, List.cons.injEq] at h
    obtain ⟨h1, h2, h3⟩ := h
    rw [kLH (hl x (by simp)) (hm y (by simp)) h1 h2, kBy_inj (fun z hz => hl z (by simp [hz])) (fun z hz => hm z (by simp [hz])) h3]
theorem kStr_eq {l m : List Int} (hl : ∀ x ∈ l, -1 ≤ x ∧ x < 65535) (hm : ∀ x ∈ m, -1 ≤ x ∧ x < 65535) : (kStr l == kStr m) = (l == m) := by
  rw [Bool.eq_iff_iff, Go.MapKept.bytes_beq, beq_iff_eq]
  constructor
  · intro h
    have : (kBy l).toArray = (kBy m).toArray := congrArg ByteArray.data h
    exact kBy_inj hl hm (by simpa using congrArg Array.toList this)
  · rintro rfl; rfl
def kTo (lv : List Bool) (c : List Int) (t : Int) : Int := if (decide (t ≥ 0) && lv.getD t.toNat false) = true then c.getD t.toNat 0 else -1
def keyL (N : List (List Int)) (lv : List Bool) (c : List Int) (s : Nat) : List Int := c.getD s 0 :: (N.getD s []).map (kTo lv c)
set_option maxRecDepth 20000 in
set_option maxHeartbeats 16000000 in
theorem c_key {L k : Nat} {N : List (List Int)} (h : NOk L k N) (st : Nat) (f g : Bool) (F lv : List Bool) (c : List Int) (hlv : lv.length = k) (hc : c.length = k) (hL : L ≤ 100000) (hk : k ≤ 2000) (s : Nat) (hs : s < k) :
    Contract Try.prog 91 [dfaD L st F N, .sl f (ints c), .sl g (bos lv), i64 s] (.v (.string (kStr (keyL N lv c s)))) [] := by
  refine contract_of_awp (rs := [8]) Try.func91 rfl Try.ntmps91 (by simp) rfl fun E => ?_
  have hl := h.len
  have hrow := h.get hs
  have hgi := iis_get (l := N) (i := s) (by omega)
  have hgc := ints_get (l := c) (i := s) (by omega)
  have hu : IntKind.u64.wrap 8 = 8 := rfl
  (repeat (first | refine awp_seq ?_ | refine awp_block ?_ | ((first | refine awp_skip ?_ | refine awp_exit ?_ | refine awp_reg ttok ?_ | (refine awp_draw ttok ?dr_calm ?_; (case dr_calm => decide +kernel)) | refine awp_condM ?_); simp (maxSteps := 4000000) only [↓reduceIte, Nat.reduceLT, Nat.reduceEqDiff, reduceCtorEq, Nat.reduceAdd, Nat.reduceMul, Int.reduceLE, Int.reduceLT, Int.reduceToNat, Nat.reduceLeDiff, Nat.reduceSub, Int.reduceEq, Nat.reduceBEq, evB, tyA, dfaD]; (repeat (with_reducible refine And.intro ?_ ?_; exact sdX)); (with_reducible first | refine awp_id ?_ | refine id_call ?_ | refine id_and ?_ | refine id_ex ?_ | refine id_all ?_ | refine id_nat ?_ | refine id_le ?_))))
  refine awp_drawG ttok ((0, none) :: (1, none) :: (2, none) :: (3, none) :: (4, none) :: (5, none) :: (6, none) :: (7, none) :: (8, none) :: (9, none) :: (10, none) :: (11, some []) :: (12, none) :: []) ([]) ([]) (by decide +kernel) fun O hO => ?_; simp only [OpsAre, Nat.reduceAdd, and_true, List.toList_toArray, List.append_eq, List.cons_append, List.nil_append] at hO; simp (maxSteps := 4000000) only [↓reduceIte, Nat.reduceLT, Nat.reduceEqDiff, reduceCtorEq, Nat.reduceAdd, Nat.reduceMul, Int.reduceLE, Int.reduceLT, Int.reduceToNat, Nat.reduceLeDiff, Nat.reduceSub, Int.reduceEq, Nat.reduceBEq, evB, tyA, hO, hgc, hc]; (repeat (with_reducible refine And.intro ?_ ?_; exact sdX))
  (repeat (first | refine awp_seq ?_ | refine awp_block ?_ | ((first | refine awp_skip ?_ | refine awp_exit ?_ | refine awp_reg ttok ?_ | (refine awp_draw ttok ?dr_calm ?_; (case dr_calm => decide +kernel)) | refine awp_condM ?_); simp (maxSteps := 4000000) only [↓reduceIte, Nat.reduceLT, Nat.reduceEqDiff, reduceCtorEq, Nat.reduceAdd, Nat.reduceMul, Int.reduceLE, Int.reduceLT, Int.reduceToNat, Nat.reduceLeDiff, Nat.reduceSub, Int.reduceEq, Nat.reduceBEq, evB, tyA, hgi, iis_len, hl, ints_len, hrow.1]; (repeat (with_reducible refine And.intro ?_ ?_; exact sdX)); (with_reducible first | refine awp_id ?_ | refine id_call ?_ | refine id_and ?_ | refine id_ex ?_ | refine id_all ?_ | refine id_nat ?_ | refine id_le ?_))))
  have r2 : ∀ x y : Int, [[D.v (Value.int IntKind.u8 (IntKind.u8.wrap x))], [D.v (Value.int IntKind.u8 (IntKind.u8.wrap (y.fdiv (2 ^ min 8 IntKind.i64.bits))))]] = bys [kLo x, kHi y] := fun x y => by rw [kLo_val, kHi_val]; rfl
  refine awp_loop (X := Nat) (fun j => mkS 58 [(1, .sl f (ints c)), (2, .sl g (bos lv)), (9, .own 2011 0 (kBy (c.getD s 0 :: ((N.getD s []).take j).map (kTo lv c))).length), (29, .sl false (ints (N.getD s []))), (30, i64 L), (31, i64 j)] [(2011, { sz := 1, rows := bys (kBy (c.getD s 0 :: ((N.getD s []).take j).map (kTo lv c))) })]) (fun j => j ≤ L) (fun j => L - j) 0 (Nat.zero_le _) (mkS_le rfl ?_ ?_) ?_
  · simp (maxSteps := 4000000) only [↓reduceIte, Nat.reduceLT, Nat.reduceEqDiff, reduceCtorEq, Nat.reduceAdd, Nat.reduceMul, Int.reduceLE, Int.reduceLT, Int.reduceToNat, Nat.reduceLeDiff, Nat.reduceSub, Int.reduceEq, Nat.reduceBEq, evB, kBy_len]
    try rfl
  · simp (maxSteps := 4000000) only [↓reduceIte, Nat.reduceLT, Nat.reduceEqDiff, reduceCtorEq, Nat.reduceAdd, Nat.reduceMul, Int.reduceLE, Int.reduceLT, Int.reduceToNat, Nat.reduceLeDiff, Nat.reduceSub, Int.reduceEq, Nat.reduceBEq, evB, r2]
    try rfl
  · intro j hj
    by_cases hlt : j < L
    · have d1 : decide ((j : Int) < (L : Int)) = true := by simpa using hlt
      have hwi : IntKind.i64.wrap ((j : Int) + 1) = ((j + 1 : Nat) : Int) := i64_in (by omega) (by omega)
      have hgj := ints_get (l := N.getD s []) (i := j) (by omega)
      have hst : c.getD s 0 :: ((N.getD s []).take (j + 1)).map (kTo lv c) = (c.getD s 0 :: ((N.getD s []).take j).map (kTo lv c)) ++ [kTo lv c ((N.getD s []).getD j 0)] := by
        rw [take_snoc (by omega) 0]; simp
      have hbl := kBy_len (c.getD s 0 :: ((N.getD s []).take j).map (kTo lv c))
      have hml : (c.getD s 0 :: ((N.getD s []).take j).map (kTo lv c)).length ≤ L + 1 := by simp; omega
      have hx : -1 ≤ (N.getD s []).getD j 0 ∧ (N.getD s []).getD j 0 < (k : Int) := by
        have hc' : j < (N.getD s []).length := by omega
        have e : (N.getD s []).getD j 0 = (N.getD s [])[j] := by
          generalize N.getD s [] = w at hc' ⊢
          simp [List.getD, List.getElem?_eq_getElem hc']
        rw [e]; exact hrow.2 _ (List.getElem_mem _)
      have hr1 := hrow.1
      generalize (c.getD s 0 :: ((N.getD s []).take j).map (kTo lv c)) = B at *
      generalize (N.getD s []).getD j 0 = x at *
      have hsh : ∀ z : Int, IntKind.i64.wrap z = IntKind.i64.wrap z := fun _ => rfl
      have htk : List.take (kBy B).length (kBy B) = kBy B := List.take_of_length_le (Nat.le_refl _)
      by_cases hx0 : x ≥ 0
      · obtain ⟨y, rfl⟩ := Int.eq_ofNat_of_zero_le hx0
        have e1 : decide (((y : Nat) : Int) ≥ 0) = true := by simp
        have hgb := bos_get (l := lv) (i := y) (by omega)
        have hgcy := ints_get (l := c) (i := y) (by omega)
        cases hq : lv.getD y false
        · rw [hq] at hgb
          have hkt : kTo lv c ((y : Nat) : Int) = -1 := by unfold kTo; rw [Int.toNat_natCast, hq, Bool.and_false, if_neg (by simp)]
          rw [hkt] at hst
          (repeat (first | refine awp_seq ?_ | refine awp_block ?_ | ((first | refine awp_skip ?_ | refine awp_exit ?_ | refine awp_reg ttok ?_ | (refine awp_draw ttok ?dr_calm ?_; (case dr_calm => decide +kernel)) | refine awp_condM ?_); simp (maxSteps := 4000000) only [↓reduceIte, Nat.reduceLT, Nat.reduceEqDiff, reduceCtorEq, Nat.reduceAdd, Nat.reduceMul, Int.reduceLE, Int.reduceLT, Int.reduceToNat, Nat.reduceLeDiff, Nat.reduceSub, Int.reduceEq, Nat.reduceBEq, evB, tyA, d1, hgj, ints_len, hr1, e1, bos_len, hlv, hc, hgb, hwi, r2, htk]; (repeat (with_reducible refine And.intro ?_ ?_; exact sdX)); (with_reducible first | refine awp_id ?_ | refine id_call ?_ | refine id_and ?_ | refine id_ex ?_ | refine id_all ?_ | refine id_nat ?_ | refine id_le ?_))))
          refine ⟨j + 1, by omega, by omega, mkS_le rfl ?_ ?_⟩
          · simp (maxSteps := 4000000) only [↓reduceIte, Nat.reduceLT, Nat.reduceEqDiff, reduceCtorEq, Nat.reduceAdd, Nat.reduceMul, Int.reduceLE, Int.reduceLT, Int.reduceToNat, Nat.reduceLeDiff, Nat.reduceSub, Int.reduceEq, Nat.reduceBEq, evB, hst, kBy_snoc, List.length_append]
            try rfl
          · simp (maxSteps := 4000000) only [↓reduceIte, Nat.reduceLT, Nat.reduceEqDiff, reduceCtorEq, Nat.reduceAdd, Nat.reduceMul, Int.reduceLE, Int.reduceLT, Int.reduceToNat, Nat.reduceLeDiff, Nat.reduceSub, Int.reduceEq, Nat.reduceBEq, evB, hst, kBy_snoc]
        · rw [hq] at hgb
          have hkt : kTo lv c ((y : Nat) : Int) = c.getD y 0 := by unfold kTo; rw [Int.toNat_natCast, hq, Bool.and_true, if_pos (by simp)]
          rw [hkt] at hst
          (repeat (first | refine awp_seq ?_ | refine awp_block ?_ | ((first | refine awp_skip ?_ | refine awp_exit ?_ | refine awp_reg ttok ?_ | (refine awp_draw ttok ?dr_calm ?_; (case dr_calm => decide +kernel)) | refine awp_condM ?_); simp (maxSteps := 4000000) only [↓reduceIte, Nat.reduceLT, Nat.reduceEqDiff, reduceCtorEq, Nat.reduceAdd, Nat.reduceMul, Int.reduceLE, Int.reduceLT, Int.reduceToNat, Nat.reduceLeDiff, Nat.reduceSub, Int.reduceEq, Nat.reduceBEq, evB, tyA, d1, hgj, ints_len, hr1, e1, bos_len, hlv, hc, hgb, hgcy, hwi, r2, htk]; (repeat (with_reducible refine And.intro ?_ ?_; exact sdX)); (with_reducible first | refine awp_id ?_ | refine id_call ?_ | refine id_and ?_ | refine id_ex ?_ | refine id_all ?_ | refine id_nat ?_ | refine id_le ?_))))
          refine ⟨j + 1, by omega, by omega, mkS_le rfl ?_ ?_⟩
          · simp (maxSteps := 4000000) only [↓reduceIte, Nat.reduceLT, Nat.reduceEqDiff, reduceCtorEq, Nat.reduceAdd, Nat.reduceMul, Int.reduceLE, Int.reduceLT, Int.reduceToNat, Nat.reduceLeDiff, Nat.reduceSub, Int.reduceEq, Nat.reduceBEq, evB, hst, kBy_snoc, List.length_append]
            try rfl
          · simp (maxSteps := 4000000) only [↓reduceIte, Nat.reduceLT, Nat.reduceEqDiff, reduceCtorEq, Nat.reduceAdd, Nat.reduceMul, Int.reduceLE, Int.reduceLT, Int.reduceToNat, Nat.reduceLeDiff, Nat.reduceSub, Int.reduceEq, Nat.reduceBEq, evB, hst, kBy_snoc]
      · have e1 : decide (x ≥ 0) = false := by simpa using hx0
        have hkt : kTo lv c x = -1 := by unfold kTo; rw [e1, Bool.false_and, if_neg (by simp)]
        rw [hkt] at hst
        (repeat (first | refine awp_seq ?_ | refine awp_block ?_ | ((first | refine awp_skip ?_ | refine awp_exit ?_ | refine awp_reg ttok ?_ | (refine awp_draw ttok ?dr_calm ?_; (case dr_calm => decide +kernel)) | refine awp_condM ?_); simp (maxSteps := 4000000) only [↓reduceIte, Nat.reduceLT, Nat.reduceEqDiff, reduceCtorEq, Nat.reduceAdd, Nat.reduceMul, Int.reduceLE, Int.reduceLT, Int.reduceToNat, Nat.reduceLeDiff, Nat.reduceSub, Int.reduceEq, Nat.reduceBEq, evB, tyA, d1, hgj, ints_len, hr1, e1, hwi, r2, htk]; (repeat (with_reducible refine And.intro ?_ ?_; exact sdX)); (with_reducible first | refine awp_id ?_ | refine id_call ?_ | refine id_and ?_ | refine id_ex ?_ | refine id_all ?_ | refine id_nat ?_ | refine id_le ?_))))
        refine ⟨j + 1, by omega, by omega, mkS_le rfl ?_ ?_⟩
        · simp (maxSteps := 4000000) only [↓reduceIte, Nat.reduceLT, Nat.reduceEqDiff, reduceCtorEq, Nat.reduceAdd, Nat.reduceMul, Int.reduceLE, Int.reduceLT, Int.reduceToNat, Nat.reduceLeDiff, Nat.reduceSub, Int.reduceEq, Nat.reduceBEq, evB, hst, kBy_snoc, List.length_append]
          try rfl
        · simp (maxSteps := 4000000) only [↓reduceIte, Nat.reduceLT, Nat.reduceEqDiff, reduceCtorEq, Nat.reduceAdd, Nat.reduceMul, Int.reduceLE, Int.reduceLT, Int.reduceToNat, Nat.reduceLeDiff, Nat.reduceSub, Int.reduceEq, Nat.reduceBEq, evB, hst, kBy_snoc]
    · have d1 : decide ((j : Int) < (L : Int)) = false := by simpa using hlt
      obtain rfl : j = L := by omega
      have hft : (N.getD s []).take j = N.getD s [] := List.take_of_length_le (by have := hrow.1; omega)
      rw [hft]
      (repeat (first | refine awp_seq ?_ | refine awp_block ?_ | ((first | refine awp_skip ?_ | refine awp_exit ?_ | refine awp_reg ttok ?_ | (refine awp_draw ttok ?dr_calm ?_; (case dr_calm => decide +kernel)) | refine awp_condM ?_); simp (maxSteps := 4000000) only [↓reduceIte, Nat.reduceLT, Nat.reduceEqDiff, reduceCtorEq, Nat.reduceAdd, Nat.reduceMul, Int.reduceLE, Int.reduceLT, Int.reduceToNat, Nat.reduceLeDiff, Nat.reduceSub, Int.reduceEq, Nat.reduceBEq, evB, tyA, d1]; (repeat (with_reducible refine And.intro ?_ ?_; exact sdX)); (with_reducible first | refine awp_id ?_ | refine id_call ?_ | refine id_and ?_ | refine id_ex ?_ | refine id_all ?_ | refine id_nat ?_ | refine id_le ?_))))
      refine awp_ret (ends_plain (.inr rfl) rfl ?_)
      simp (maxSteps := 4000000) only [↓reduceIte, Nat.reduceLT, Nat.reduceEqDiff, reduceCtorEq, Nat.reduceAdd, Nat.reduceMul, Int.reduceLE, Int.reduceLT, Int.reduceToNat, Nat.reduceLeDiff, Nat.reduceSub, Int.reduceEq, Nat.reduceBEq, evB, keyL, kStr, List.take_of_length_le (Nat.le_refl _)]
def ixM {α : Type} (kf : α → Value) (ks : List α) (n : Nat) : List (Value × Value) := (ks.zipIdx n).map fun p => (kf p.1, .int .i64 (p.2 : Int))
theorem ixM_cons {α : Type} (kf : α → Value) (y : α) (ks : List α) (n : Nat) : ixM kf (y :: ks) n = (kf y, .int .i64 (n : Int)) :: ixM kf ks (n + 1) := by simp [ixM]
theorem ixM_len {α : Type} (kf : α → Value) (ks : List α) (n : Nat) : (ixM kf ks n).length = ks.length := by simp [ixM]
theorem mget_ix {α : Type} [BEq α] [LawfulBEq α] (kf : α → Value) (x : α) : ∀ (ks : List α) (n : Nat), (∀ y ∈ ks, keyEq (kf x) (kf y) = (y == x)) → mget (kf x) (ixM kf ks n) = if ks.contains x = true then some (.int .i64 ((n + ks.idxOf x : Nat) : Int)) else none
  | [], _, _ => rfl
  | y :: ks, n, h => by
    rw [ixM_cons, mget, h y (by simp), mget_ix kf x ks (n + 1) fun z hz => h z (by simp [hz]), List.contains_cons, List.idxOf_cons]
    have e : (x == y) = (y == x) := by rw [Bool.eq_iff_iff, beq_iff_eq, beq_iff_eq]; exact eq_comm
    rw [e]
    cases hq : (y == x)
    · simp only [Bool.false_eq_true, if_false, Bool.false_or, cond_false]
      rw [show n + 1 + ks.idxOf x = n + (ks.idxOf x + 1) by omega]
    · simp
theorem mset_ix {α : Type} [BEq α] [LawfulBEq α] (kf : α → Value) (x : α) : ∀ (ks : List α) (n : Nat), (∀ y ∈ ks, keyEq (kf x) (kf y) = (y == x)) → ks.contains x = false → mset (kf x) (.int .i64 ((n + ks.length : Nat) : Int)) (ixM kf ks n) = ixM kf (ks ++ [x]) n
  | [], n, _, _ => by simp [ixM, mset]
  | y :: ks, n, h, hc => by
    rw [List.contains_cons, Bool.or_eq_false_iff] at hc
    have e : (y == x) = false := by rw [← hc.1, Bool.eq_iff_iff, beq_iff_eq, beq_iff_eq]; exact eq_comm
    rw [ixM_cons, mset, h y (by simp), e, List.cons_append, ixM_cons]
    simp only [Bool.false_eq_true, if_false]
    rw [← mset_ix kf x ks (n + 1) (fun z hz => h z (by simp [hz])) hc.2, List.length_cons, show n + 1 + ks.length = n + (ks.length + 1) by omega]
def addK (ks : List (List Int)) (x : List Int) : List (List Int) := if ks.contains x = true then ks else ks ++ [x]
def kst (N : List (List Int)) (lv : List Bool) (c : List Int) : Nat → List (List Int)
  | 0 => []
  | i + 1 => if lv.getD i false = true then addK (kst N lv c i) (keyL N lv c i) else kst N lv c i
def kAll (N : List (List Int)) (lv : List Bool) (c : List Int) : List (List Int) := kst N lv c N.length
def refI (N : List (List Int)) (lv : List Bool) (c : List Int) (i : Nat) : Int := if lv.getD i false = true then (((kAll N lv c).idxOf (keyL N lv c i) : Nat) : Int) else -1
def refL (N : List (List Int)) (lv : List Bool) (c : List Int) : List Int := (List.range N.length).map (refI N lv c)
def cls0 (F lv : List Bool) : List Int := (List.range F.length).map fun i => if lv.getD i false = true then (if F.getD i false = true then 1 else 0) else -1
def clsR (F : List Bool) (N : List (List Int)) : Nat → List Int
  | 0 => cls0 F (liveL F N)
  | r + 1 => refL N (liveL F N) (clsR F N r)
def cntR (F : List Bool) (N : List (List Int)) (r : Nat) : Nat := (kAll N (liveL F N) (clsR F N r)).length
def clsF (F : List Bool) (N : List (List Int)) : List Int := clsR F N (F.length + 2)
section
variable {N : List (List Int)} {lv : List Bool} {c : List Int}
theorem kst_pre (i : Nat) : ∃ t, kst N lv c (i + 1) = kst N lv c i ++ t ∧ (lv.getD i false = true → keyL N lv c i ∈ kst N lv c (i + 1)) := by
  rw [kst]
  split
  · unfold addK
    split
    · rename_i h1 h2
      exact ⟨[], by simp, fun _ => by simpa using h2⟩
    · exact ⟨[keyL N lv c i], rfl, fun _ => by simp⟩
  · rename_i h
    exact ⟨[], by simp, fun q => absurd q h⟩
theorem kst_pre2 (i : Nat) : ∀ j, ∃ t, kst N lv c (i + j) = kst N lv c i ++ t
  | 0 => ⟨[], by simp⟩
  | j + 1 => by
    obtain ⟨t, h⟩ := kst_pre2 i j
    obtain ⟨u, h2, _⟩ := kst_pre (N := N) (lv := lv) (c := c) (i + j)
    exact ⟨t ++ u, by rw [← Nat.add_assoc, h2, h, List.append_assoc]⟩
theorem kst_all {i : Nat} (hi : i ≤ N.length) : ∃ t, kAll N lv c = kst N lv c i ++ t := by
  obtain ⟨t, h⟩ := kst_pre2 (N := N) (lv := lv) (c := c) i (N.length - i)
  rw [show i + (N.length - i) = N.length by omega] at h
  exact ⟨t, h⟩
theorem kst_len : ∀ i, (kst N lv c i).length ≤ i
  | 0 => Nat.le_refl _
  | i + 1 => by
    have := kst_len i
    rw [kst]
    split
    · unfold addK
      split <;> simp <;> omega
    · omega
theorem kst_in {x : List Int} : ∀ {i : Nat}, x ∈ kst N lv c i → ∃ j, j < i ∧ lv.getD j false = true ∧ x = keyL N lv c j
  | 0, h => by cases h
  | i + 1, h => by
    rw [kst] at h
    split at h
    · rename_i hl
      unfold addK at h
      split at h
      · obtain ⟨j, h1, h2⟩ := kst_in h
        exact ⟨j, by omega, h2⟩
      · rcases List.mem_append.1 h with q | q
        · obtain ⟨j, h1, h2⟩ := kst_in q
          exact ⟨j, by omega, h2⟩
        · rw [List.mem_singleton] at q
          exact ⟨i, by omega, hl, q⟩
    · obtain ⟨j, h1, h2⟩ := kst_in h
      exact ⟨j, by omega, h2⟩
theorem kAll_mem {i : Nat} (hi : i < N.length) (hl : lv.getD i false = true) : keyL N lv c i ∈ kAll N lv c := by
  obtain ⟨_, _, h⟩ := kst_pre (N := N) (lv := lv) (c := c) i
  obtain ⟨t, ht⟩ := kst_all (N := N) (lv := lv) (c := c) (i := i + 1) hi
  rw [ht]; exact List.mem_append_left _ (h hl)
theorem refL_len : (refL N lv c).length = N.length := by simp [refL]
theorem refL_getE {i : Nat} (hi : i < (refL N lv c).length) : (refL N lv c)[i] = refI N lv c i := by simp [refL]
theorem refL_get {i : Nat} (hi : i < N.length) : (refL N lv c).getD i 0 = refI N lv c i := by simp [refL, List.getD, hi]
theorem refI_at {i : Nat} (hi : i < N.length) (hl : lv.getD i false = true) : refI N lv c i = (((kst N lv c (i + 1)).idxOf (keyL N lv c i) : Nat) : Int) := by
  obtain ⟨_, _, h⟩ := kst_pre (N := N) (lv := lv) (c := c) i
  obtain ⟨t, ht⟩ := kst_all (N := N) (lv := lv) (c := c) (i := i + 1) hi
  rw [refI, if_pos hl, ht, List.idxOf_append, if_pos (h hl)]
theorem refI_dead {i : Nat} (hl : lv.getD i false = false) : refI N lv c i = -1 := by rw [refI, if_neg (by rw [hl]; simp)]
theorem refI_bd (i : Nat) (hi : i < N.length) : -1 ≤ refI N lv c i ∧ refI N lv c i < (N.length : Int) := by
  rw [refI]
  split
  · rename_i hl
    have h1 := List.idxOf_lt_length_of_mem (kAll_mem (c := c) hi hl)
    have h2 := kst_len (N := N) (lv := lv) (c := c) N.length
    unfold kAll at h1 ⊢
    omega
  · omega
theorem refI_same {i j : Nat} (hi : i < N.length) (hj : j < N.length) (hl : lv.getD i false = true) (hm : lv.getD j false = true) : refI N lv c i = refI N lv c j ↔ keyL N lv c i = keyL N lv c j := by
  rw [refI, if_pos hl, refI, if_pos hm]
  constructor
  · intro h
    have e : (kAll N lv c).idxOf (keyL N lv c i) = (kAll N lv c).idxOf (keyL N lv c j) := by omega
    have h1 := List.idxOf_lt_length_of_mem (kAll_mem (c := c) hi hl)
    have g1 := List.getElem_idxOf h1
    have h2 := List.idxOf_lt_length_of_mem (kAll_mem (c := c) hj hm)
    have g2 := List.getElem_idxOf h2
    rw [← g1, ← g2]
    congr 1
  · intro h; rw [h]
theorem kst_heads {i : Nat} (hi : i ≤ N.length) {x : List Int} (hx : x ∈ kst N lv (refL N lv c) i) : 0 ≤ x.headD 0 ∧ x.headD 0 < ((kst N lv c i).length : Int) := by
  obtain ⟨j, hj, hl, rfl⟩ := kst_in hx
  have e : (keyL N lv (refL N lv c) j).headD 0 = refI N lv c j := by
    rw [keyL, List.headD_cons, refL_get (by omega)]
  rw [e, refI_at (by omega) hl]
  obtain ⟨_, _, h⟩ := kst_pre (N := N) (lv := lv) (c := c) j
  have h1 := List.idxOf_lt_length_of_mem (h hl)
  obtain ⟨t, ht⟩ := kst_pre2 (N := N) (lv := lv) (c := c) (j + 1) (i - (j + 1))
  rw [show j + 1 + (i - (j + 1)) = i by omega] at ht
  have h2 : (kst N lv c i).length = (kst N lv c (j + 1)).length + t.length := by rw [ht, List.length_append]
  omega
theorem kst_new {i : Nat} (hi : i < N.length) (hl : lv.getD i false = true) (hn : (kst N lv c i).contains (keyL N lv c i) = false) : (kst N lv (refL N lv c) i).contains (keyL N lv (refL N lv c) i) = false ∧ (keyL N lv (refL N lv c) i).headD 0 = ((kst N lv c i).length : Int) := by
  have e : (keyL N lv (refL N lv c) i).headD 0 = refI N lv c i := by
    rw [keyL, List.headD_cons, refL_get hi]
  have e1 : kst N lv c (i + 1) = addK (kst N lv c i) (keyL N lv c i) := by rw [kst, if_pos hl]
  have e2 : refI N lv c i = ((kst N lv c i).length : Int) := by
    rw [refI_at hi hl, e1, addK, if_neg (by rw [hn]; simp), List.idxOf_append, if_neg (by simpa using hn)]
    simp
  refine ⟨?_, by rw [e, e2]⟩
  rw [Bool.eq_false_iff]
  intro hc
  have := (kst_heads (i := i) (Nat.le_of_lt hi) (by simpa using hc)).2
  rw [e, e2] at this
  omega
theorem kst_step {i : Nat} (hi : i < N.length) : (kst N lv (refL N lv c) i).length + (kst N lv c (i + 1)).length ≤ (kst N lv (refL N lv c) (i + 1)).length + (kst N lv c i).length := by
  cases hl : lv.getD i false
  · simp only [kst, hl, Bool.false_eq_true, if_false]; omega
  · have e1 : kst N lv c (i + 1) = addK (kst N lv c i) (keyL N lv c i) := by rw [kst, if_pos hl]
    have e2 : kst N lv (refL N lv c) (i + 1) = addK (kst N lv (refL N lv c) i) (keyL N lv (refL N lv c) i) := by rw [kst, if_pos hl]
    cases hn : (kst N lv c i).contains (keyL N lv c i)
    · have h3 := (kst_new hi hl hn).1
      rw [e1, e2]
      simp only [addK, hn, h3, Bool.false_eq_true, if_false, List.length_append, List.length_cons, List.length_nil]
      omega
    · rw [e1, e2]
      simp only [addK, hn, if_true]
      split
      · omega
      · simp only [List.length_append, List.length_cons, List.length_nil]; omega
theorem kst_le : ∀ i, i ≤ N.length → (kst N lv c i).length ≤ (kst N lv (refL N lv c) i).length
  | 0, _ => Nat.le_refl _
  | i + 1, hi => by
    have h1 := kst_le i (by omega)
    have h2 := kst_step (lv := lv) (c := c) (N := N) (i := i) (by omega)
    omega
theorem kst_gap {i : Nat} (hi : i ≤ N.length) : ∀ j, i + j ≤ N.length → (kst N lv (refL N lv c) i).length + (kst N lv c (i + j)).length ≤ (kst N lv (refL N lv c) (i + j)).length + (kst N lv c i).length
  | 0, _ => by rw [Nat.add_zero]; omega
  | j + 1, h => by
    have h1 := kst_gap hi j (by omega)
    have h2 := kst_step (lv := lv) (c := c) (N := N) (i := i + j) (by omega)
    rw [← Nat.add_assoc]
    omega
theorem kst_stable (h : (kAll N lv (refL N lv c)).length = (kAll N lv c).length) : refL N lv (refL N lv c) = refL N lv c := by
  have hle : ∀ i, i ≤ N.length → (kst N lv c i).length = (kst N lv (refL N lv c) i).length := fun i hi => by
    have h1 := kst_le (lv := lv) (c := c) (N := N) i hi
    have h2 := kst_gap (lv := lv) (c := c) (N := N) (i := i) hi (N.length - i) (by omega)
    rw [show i + (N.length - i) = N.length by omega] at h2
    unfold kAll at h
    omega
  have hh : ∀ i, i ≤ N.length → (kst N lv (refL N lv c) i).map (fun x => x.headD 0) = (List.range (kst N lv c i).length).map fun (j : Nat) => (j : Int) := fun i => by
    induction i with
    | zero => intro _; rfl
    | succ i ih =>
      intro hi
      have ih := ih (by omega)
      cases hl : lv.getD i false
      · simp only [kst, hl, Bool.false_eq_true, if_false]; exact ih
      · have e1 : kst N lv c (i + 1) = addK (kst N lv c i) (keyL N lv c i) := by rw [kst, if_pos hl]
        have e2 : kst N lv (refL N lv c) (i + 1) = addK (kst N lv (refL N lv c) i) (keyL N lv (refL N lv c) i) := by rw [kst, if_pos hl]
        have l0 := hle i (by omega)
        have l1 := hle (i + 1) hi
        rw [e1, e2] at l1
        rw [e1, e2]
        cases hn : (kst N lv c i).contains (keyL N lv c i)
        · obtain ⟨h3, h4⟩ := kst_new (by omega) hl hn
          simp only [addK, hn, h3, Bool.false_eq_true, if_false, List.map_append, List.length_append, List.length_cons, List.length_nil, ih, List.map_cons, List.map_nil, h4, List.range_succ]
        · cases h3 : (kst N lv (refL N lv c) i).contains (keyL N lv (refL N lv c) i)
          · simp only [addK, hn, h3, Bool.false_eq_true, if_false, if_true, List.length_append, List.length_cons, List.length_nil] at l1
            omega
          · simp only [addK, hn, h3, if_true]; exact ih
  have hA := hh N.length (Nat.le_refl _)
  apply List.ext_getElem
  · rw [refL_len, refL_len]
  · intro i h1 h2
    have hi : i < N.length := by rw [refL_len] at h1; exact h1
    rw [refL_getE, refL_getE]
    cases hl : lv.getD i false
    · rw [refI_dead hl, refI_dead hl]
    · have hm := kAll_mem (c := refL N lv c) hi hl
      have h3 := List.idxOf_lt_length_of_mem hm
      have g3 := List.getElem_idxOf h3
      have e : (keyL N lv (refL N lv c) i).headD 0 = refI N lv c i := by
        rw [keyL, List.headD_cons, refL_get hi]
      have q : ((kAll N lv (refL N lv c)).map (fun x => x.headD 0))[(kAll N lv (refL N lv c)).idxOf (keyL N lv (refL N lv c) i)]'(by simpa using h3) = refI N lv c i := by
        rw [List.getElem_map, g3, e]
      have q2 : ((kAll N lv (refL N lv c)).map (fun x => x.headD 0))[(kAll N lv (refL N lv c)).idxOf (keyL N lv (refL N lv c) i)]'(by simpa using h3) = (((kAll N lv (refL N lv c)).idxOf (keyL N lv (refL N lv c) i) : Nat) : Int) := by
        have hA' : (kAll N lv (refL N lv c)).map (fun x => x.headD 0) = (List.range (kst N lv c N.length).length).map fun (j : Nat) => (j : Int) := hA
        simp only [hA', List.getElem_map, List.getElem_range]
      have : refI N lv (refL N lv c) i = (((kAll N lv (refL N lv c)).idxOf (keyL N lv (refL N lv c) i) : Nat) : Int) := by rw [refI, if_pos hl]
      rw [this, ← q2, q]
end
section
variable {F : List Bool} {N : List (List Int)}
theorem cntR_le (r : Nat) : cntR F N r ≤ cntR F N (r + 1) := kst_le N.length (Nat.le_refl _)
theorem cntR_top (r : Nat) : cntR F N r ≤ N.length := kst_len _
theorem clsR_stop {r : Nat} (h : cntR F N (r + 1) = cntR F N r) : ∀ j, clsR F N (r + 1 + j) = clsR F N (r + 1)
  | 0 => rfl
  | j + 1 => by
    rw [← Nat.add_assoc, clsR, clsR_stop h j]
    exact kst_stable h
theorem cntR_rise (r : Nat) : (∃ q, q < r ∧ cntR F N (q + 1) = cntR F N q) ∨ r ≤ cntR F N r := by
  induction r with
  | zero => exact .inr (Nat.zero_le _)
  | succ r ih =>
    rcases ih with ⟨q, h1, h2⟩ | h
    · exact .inl ⟨q, by omega, h2⟩
    · by_cases he : cntR F N (r + 1) = cntR F N r
      · exact .inl ⟨r, by omega, he⟩
      · right
        have := cntR_le (F := F) (N := N) r
        omega
theorem clsF_of (hl : N.length = F.length) {r : Nat} (h : cntR F N (r + 1) = cntR F N r) : clsR F N (r + 1) = clsF F N := by
  have key : ∃ q, q ≤ F.length ∧ cntR F N (q + 1) = cntR F N q := by
    rcases cntR_rise (F := F) (N := N) (F.length + 1) with ⟨q, h1, h2⟩ | g
    · exact ⟨q, by omega, h2⟩
    · have := cntR_top (F := F) (N := N) (F.length + 1); omega
  obtain ⟨q, h1, h2⟩ := key
  have e1 := clsR_stop h2 (F.length + 1 - q)
  rw [show q + 1 + (F.length + 1 - q) = F.length + 2 by omega] at e1
  unfold clsF
  rw [e1]
  rcases Nat.le_total r q with g | g
  · have := clsR_stop h (q - r)
    rw [show r + 1 + (q - r) = q + 1 by omega] at this
    exact this.symm
  · have := clsR_stop h2 (r - q)
    rw [show q + 1 + (r - q) = r + 1 by omega] at this
    exact this
theorem clsF_fix (hl : N.length = F.length) : refL N (liveL F N) (clsF F N) = clsF F N := by
  have key : ∃ q, q ≤ F.length ∧ cntR F N (q + 1) = cntR F N q := by
    rcases cntR_rise (F := F) (N := N) (F.length + 1) with ⟨q, h1, h2⟩ | g
    · exact ⟨q, by omega, h2⟩
    · have := cntR_top (F := F) (N := N) (F.length + 1); omega
  obtain ⟨q, h1, h2⟩ := key
  rw [← clsF_of hl h2]
  exact kst_stable h2
theorem clsR_len (hl : N.length = F.length) : ∀ r, (clsR F N r).length = F.length
  | 0 => by simp [clsR, cls0]
  | r + 1 => by rw [clsR, refL_len, hl]
theorem clsR_bd (hl : N.length = F.length) (hk : 1 ≤ F.length) : ∀ r, ∀ x ∈ clsR F N r, -1 ≤ x ∧ x < (F.length : Int) + 1
  | 0, x, hx => by
    simp only [clsR, cls0, List.mem_map, List.mem_range] at hx
    obtain ⟨i, hi, rfl⟩ := hx
    split
    · split <;> omega
    · omega
  | r + 1, x, hx => by
    simp only [clsR, refL, List.mem_map, List.mem_range] at hx
    obtain ⟨i, hi, rfl⟩ := hx
    have := refI_bd (lv := liveL F N) (c := clsR F N r) i hi
    omega
end
theorem getE {l : List Int} {a : Nat} (h : a < l.length) : l[a] = l.getD a 0 := by simp [List.getD, List.getElem?_eq_getElem h]
theorem toD_neg {N : List (List Int)} {s a : Int} (h : s < 0) : toD N s a = -1 := by unfold toD; rw [if_pos (.inl h)]
theorem ends_cons {F : List Bool} {N : List (List Int)} (s a : Int) (w : List Int) : endsD F N s (a :: w) = endsD F N (toD N s a) w := by
  unfold endsD
  rw [runD]
  by_cases h : s < 0
  · rw [if_pos h, toD_neg h, runD_neg (by decide)]
    simp [show ¬ 0 ≤ s by omega]
  · rw [if_neg h]
theorem ends_neg {F : List Bool} {N : List (List Int)} {s : Int} (h : s < 0) (w : List Int) : endsD F N s w = false := by
  unfold endsD
  rw [runD_neg h]
  simp [show ¬ 0 ≤ s by omega]
section
variable {L k : Nat} {N : List (List Int)} {F : List Bool}
theorem NOk.bnd (h : NOk L k N) (s : Nat) : ∀ t ∈ N.getD s [], t < (N.length : Int) := fun t ht => by
  rcases Nat.lt_or_ge s k with q | q
  · have := (h.get q).2 t ht
    have := h.len
    omega
  · simp [List.getD, List.getElem?_eq_none (show N.length ≤ s by have := h.len; omega)] at ht
theorem live_word (h : NOk L k N) (hF : F.length = k) {s : Nat} (hs : s < k) : (liveL F N).getD s false = true ↔ ∃ w, endsD F N s w = true := by
  have hl := h.len
  rw [live_iff (by omega) h.bnd (by omega)]
  constructor
  · exact run_of_lv (by omega)
  · rintro ⟨w, hw⟩
    have := lv_of_run (by omega) hw
    simpa using this
theorem dead_word (h : NOk L k N) (hF : F.length = k) {s : Nat} (hs : s < k) (hd : (liveL F N).getD s false = false) (w : List Int) : endsD F N s w = false := by
  cases he : endsD F N s w
  · rfl
  · have := (live_word h hF hs).2 ⟨w, he⟩
    rw [hd] at this; cases this
theorem toD_at (h : NOk L k N) {s : Nat} (hs : s < k) {a : Int} (ha : 0 ≤ a ∧ a < (L : Int)) : toD N s a = (N.getD s []).getD a.toNat 0 := by
  unfold toD
  rw [if_neg, Int.toNat_natCast]
  have h1 := h.len
  have h2 := (h.get hs).1
  rw [Int.toNat_natCast, h2]
  omega
theorem toD_far (h : NOk L k N) {s : Nat} (hs : s < k) {a : Int} (ha : ¬ (0 ≤ a ∧ a < (L : Int))) : toD N s a = -1 := by
  unfold toD
  rw [if_pos]
  have h2 := (h.get hs).1
  rw [Int.toNat_natCast, h2]
  omega
theorem kTo_neg {lv : List Bool} {c : List Int} {t : Int} (h : t < 0) : kTo lv c t = -1 := by
  unfold kTo
  rw [if_neg]
  simp only [Bool.and_eq_true, decide_eq_true_eq]
  omega
theorem kTo_to {lv : List Bool} {c : List Int} (h : NOk L k N) {i j : Nat} (hi : i < k) (hj : j < k) (hk : keyL N lv c i = keyL N lv c j) (a : Int) : kTo lv c (toD N i a) = kTo lv c (toD N j a) := by
  by_cases ha : 0 ≤ a ∧ a < (L : Int)
  · rw [toD_at h hi ha, toD_at h hj ha]
    unfold keyL at hk
    have e := (List.cons.inj hk).2
    have e2 := congrArg (fun l : List Int => l[a.toNat]?) e
    simp only [List.getElem?_map] at e2
    have l1 := (h.get hi).1
    have l2 := (h.get hj).1
    generalize N.getD i [] = u at *
    generalize N.getD j [] = v at *
    rw [List.getElem?_eq_getElem (by omega), List.getElem?_eq_getElem (by omega)] at e2
    simp only [Option.map_some, Option.some.injEq] at e2
    simp only [List.getD]
    rw [List.getElem?_eq_getElem (by omega), List.getElem?_eq_getElem (by omega)]
    exact e2
  · rw [toD_far h hi ha, toD_far h hj ha]
theorem clsF_get (h : NOk L k N) (hF : F.length = k) {i : Nat} (hi : i < k) : (clsF F N).getD i 0 = refI N (liveL F N) (clsF F N) i := by
  have hl := h.len
  have e := clsF_fix (F := F) (N := N) (by omega)
  have e2 := refL_get (N := N) (lv := liveL F N) (c := clsF F N) (i := i) (by omega)
  rw [e] at e2; exact e2
theorem clsF_live (h : NOk L k N) (hF : F.length = k) {i : Nat} (hi : i < k) : (liveL F N).getD i false = true ↔ 0 ≤ (clsF F N).getD i 0 := by
  rw [clsF_get h hF hi]
  cases hq : (liveL F N).getD i false
  · rw [refI_dead hq]; simp
  · rw [refI, if_pos hq]; simp
theorem clsF_key (h : NOk L k N) (hF : F.length = k) {i j : Nat} (hi : i < k) (hj : j < k) (li : (liveL F N).getD i false = true) (lj : (liveL F N).getD j false = true) : (clsF F N).getD i 0 = (clsF F N).getD j 0 ↔ keyL N (liveL F N) (clsF F N) i = keyL N (liveL F N) (clsF F N) j := by
  have hl := h.len
  rw [clsF_get h hF hi, clsF_get h hF hj, refI_same (by omega) (by omega) li lj]
theorem clsR_get0 {i : Nat} (hi : i < F.length) : (clsR F N 0).getD i 0 = if (liveL F N).getD i false = true then (if F.getD i false = true then 1 else 0) else -1 := by
  simp [clsR, cls0, List.getD, hi]
theorem clsR_fin (h : NOk L k N) (hF : F.length = k) {i j : Nat} (hi : i < k) (hj : j < k) (li : (liveL F N).getD i false = true) (lj : (liveL F N).getD j false = true) : ∀ r, (clsR F N r).getD i 0 = (clsR F N r).getD j 0 → F.getD i false = F.getD j false
  | 0, e => by
    rw [clsR_get0 (by omega), clsR_get0 (by omega), if_pos li, if_pos lj] at e
    cases h1 : F.getD i false <;> cases h2 : F.getD j false <;> simp only [h1, h2, if_true, Bool.false_eq_true, if_false] at e ⊢ <;> omega
  | r + 1, e => by
    have hl := h.len
    rw [clsR, refL_get (by omega), refL_get (by omega), refI_same (by omega) (by omega) li lj] at e
    exact clsR_fin h hF hi hj li lj r (List.cons.inj e).1
theorem lang_of_cls (h : NOk L k N) (hF : F.length = k) : ∀ (w : List Int) (i j : Nat), i < k → j < k → (liveL F N).getD i false = true → (liveL F N).getD j false = true → (clsF F N).getD i 0 = (clsF F N).getD j 0 → endsD F N i w = endsD F N j w
  | [], i, j, hi, hj, li, lj, e => by
    have := clsR_fin h hF hi hj li lj (F.length + 2) e
    simp only [endsD, runD, Int.toNat_natCast, this]
    simp
  | a :: w, i, j, hi, hj, li, lj, e => by
    rw [ends_cons, ends_cons]
    have hk := kTo_to h hi hj ((clsF_key h hF hi hj li lj).1 e) a
    have b1 := toD_ok h (i : Int) a
    have b2 := toD_ok h (j : Int) a
    generalize toD N i a = s at *
    generalize toD N j a = t at *
    have key : ∀ s : Int, (-1 ≤ s ∧ s < (k : Int) ∨ s = -1) → (kTo (liveL F N) (clsF F N) s = -1 ∧ endsD F N s w = false) ∨ ∃ n : Nat, s = (n : Int) ∧ n < k ∧ (liveL F N).getD n false = true ∧ kTo (liveL F N) (clsF F N) s = (clsF F N).getD n 0 := fun s hs => by
      by_cases h0 : s < 0
      · exact .inl ⟨kTo_neg h0, ends_neg h0 w⟩
      · obtain ⟨n, rfl⟩ := Int.eq_ofNat_of_zero_le (Int.not_lt.1 h0)
        have hn : n < k := by omega
        cases hq : (liveL F N).getD n false
        · refine .inl ⟨?_, dead_word h hF hn hq w⟩
          unfold kTo
          rw [Int.toNat_natCast, hq, Bool.and_false, if_neg (by simp)]
        · refine .inr ⟨n, rfl, hn, hq, ?_⟩
          unfold kTo
          rw [Int.toNat_natCast, hq, if_pos (by simp)]
    rcases key s b1 with ⟨k1, e1⟩ | ⟨n, rfl, n1, n2, k1⟩
    · rcases key t b2 with ⟨k2, e2⟩ | ⟨m, rfl, m1, m2, k2⟩
      · rw [e1, e2]
      · have := (clsF_live h hF m1).1 m2
        omega
    · rcases key t b2 with ⟨k2, e2⟩ | ⟨m, rfl, m1, m2, k2⟩
      · have := (clsF_live h hF n1).1 n2
        omega
      · exact lang_of_cls h hF w n m n1 m1 n2 m2 (by omega)
theorem cls_of_lang (h : NOk L k N) (hF : F.length = k) : ∀ (r : Nat) (i j : Nat), i < k → j < k → (liveL F N).getD i false = true → (liveL F N).getD j false = true → (∀ w, endsD F N i w = endsD F N j w) → (clsR F N r).getD i 0 = (clsR F N r).getD j 0
  | 0, i, j, hi, hj, li, lj, e => by
    rw [clsR_get0 (by omega), clsR_get0 (by omega), if_pos li, if_pos lj]
    have f : ∀ s : Nat, endsD F N s [] = F.getD s false := fun s => by
      simp only [endsD, runD, Int.toNat_natCast]; simp
    have := e []
    rw [f, f] at this
    rw [this]
  | r + 1, i, j, hi, hj, li, lj, e => by
    have hl := h.len
    rw [clsR, refL_get (by omega), refL_get (by omega), refI_same (by omega) (by omega) li lj]
    unfold keyL
    rw [cls_of_lang h hF r i j hi hj li lj e]
    congr 1
    have l1 := (h.get hi).1
    have l2 := (h.get hj).1
    apply List.ext_getElem
    · simp only [List.length_map]; omega
    · intro a h1 h2
      have ha : a < L := by rw [List.length_map] at h1; omega
      have t1 := toD_at h hi (a := (a : Int)) ⟨by omega, by omega⟩
      have t2 := toD_at h hj (a := (a : Int)) ⟨by omega, by omega⟩
      rw [Int.toNat_natCast] at t1 t2
      have b1 := toD_ok h (i : Int) (a : Int)
      have b2 := toD_ok h (j : Int) (a : Int)
      have hw : ∀ w, endsD F N (toD N i a) w = endsD F N (toD N j a) w := fun w => by rw [← ends_cons, ← ends_cons]; exact e _
      have x1 : (N.getD i [])[a]'(by omega) = toD N i a := by rw [t1]; exact getE _
      have x2 : (N.getD j [])[a]'(by omega) = toD N j a := by rw [t2]; exact getE _
      rw [List.getElem_map, List.getElem_map, x1, x2]
      generalize toD N i a = s at *
      generalize toD N j a = t at *
      have key : ∀ s : Int, (-1 ≤ s ∧ s < (k : Int) ∨ s = -1) → (kTo (liveL F N) (clsR F N r) s = -1 ∧ ∀ w, endsD F N s w = false) ∨ ∃ n : Nat, s = (n : Int) ∧ n < k ∧ (liveL F N).getD n false = true ∧ kTo (liveL F N) (clsR F N r) s = (clsR F N r).getD n 0 := fun s hs => by
        by_cases h0 : s < 0
        · exact .inl ⟨kTo_neg h0, ends_neg h0⟩
        · obtain ⟨n, rfl⟩ := Int.eq_ofNat_of_zero_le (Int.not_lt.1 h0)
          have hn : n < k := by omega
          cases hq : (liveL F N).getD n false
          · refine .inl ⟨?_, dead_word h hF hn hq⟩
            unfold kTo
            rw [Int.toNat_natCast, hq, Bool.and_false, if_neg (by simp)]
          · refine .inr ⟨n, rfl, hn, hq, ?_⟩
            unfold kTo
            rw [Int.toNat_natCast, hq, if_pos (by simp)]
      rcases key s b1 with ⟨k1, e1⟩ | ⟨n, rfl, n1, n2, k1⟩
      · rcases key t b2 with ⟨k2, e2⟩ | ⟨m, rfl, m1, m2, k2⟩
        · rw [k1, k2]
        · obtain ⟨w, hx⟩ := (live_word h hF m1).1 m2
          rw [← hw, e1] at hx; cases hx
      · rcases key t b2 with ⟨k2, e2⟩ | ⟨m, rfl, m1, m2, k2⟩
        · obtain ⟨w, hx⟩ := (live_word h hF n1).1 n2
          rw [hw, e2] at hx; cases hx
        · rw [k1, k2]
          exact cls_of_lang h hF r n m n1 m1 n2 m2 hw
end
def cde (L : Nat) : List Nat → Nat := List.foldl (fun c x => c * L + x + 1) 0
theorem cde_nil (L : Nat) : cde L [] = 0 := rfl
theorem cde_snoc (L : Nat) (w : List Nat) (x : Nat) : cde L (w ++ [x]) = cde L w * L + x + 1 := by simp [cde, List.foldl_append]
section
abbrev S2 := Int × Int
abbrev QE (α : Type) := α × Int × Int
def bStep (ch : S2 → Nat → Option S2) (z : S2) (i c : Nat) (q : List (QE S2)) : List (QE S2) := match ch (q.getD i (z, -1, -1)).1 c with
  | some t => if (q.any fun e => e.1 == t) = true then q else q ++ [(t, (i : Int), (c : Int))]
  | none => q
def bRow (ch : S2 → Nat → Option S2) (z : S2) (i : Nat) (q : List (QE S2)) : Nat → List (QE S2)
  | 0 => q
  | c + 1 => bStep ch z i c (bRow ch z i q c)
def bRun (ch : S2 → Nat → Option S2) : S2 → List Nat → Option S2
  | s, [] => some s
  | s, x :: w => (ch s x).bind fun t => bRun ch t w
theorem bRun_snoc (ch : S2 → Nat → Option S2) : ∀ (w : List Nat) (s : S2) (x : Nat), bRun ch s (w ++ [x]) = (bRun ch s w).bind fun t => ch t x
  | [], s, x => by simp [bRun]
  | y :: w, s, x => by
    simp only [List.cons_append, bRun]
    cases ch s y with
    | none => rfl
    | some t => simp only [Option.bind_some]; exact bRun_snoc ch w t x
def wordQ (z : S2) (q : List (QE S2)) : Nat → Nat → List Nat
  | 0, _ => []
  | n + 1, j => if (q.getD j (z, -1, -1)).2.1 < 0 then [] else wordQ z q n (q.getD j (z, -1, -1)).2.1.toNat ++ [(q.getD j (z, -1, -1)).2.2.toNat]
structure BInv (ch : S2 → Nat → Option S2) (z : S2) (L : Nat) (q : List (QE S2)) (i c : Nat) : Prop where
  pos : 1 ≤ q.length
  head : q.getD 0 (z, -1, -1) = (z, -1, -1)
  up : ∀ j, 1 ≤ j → j < q.length → ∃ u b : Nat, (q.getD j (z, -1, -1)).2 = ((u : Int), (b : Int)) ∧ u < j ∧ b < L ∧ ch (q.getD u (z, -1, -1)).1 b = some (q.getD j (z, -1, -1)).1 ∧ (u < i ∨ (u = i ∧ b < c))
  inc : ∀ j k, 1 ≤ j → j < k → k < q.length → (q.getD j (z, -1, -1)).2.1 < (q.getD k (z, -1, -1)).2.1 ∨ ((q.getD j (z, -1, -1)).2.1 = (q.getD k (z, -1, -1)).2.1 ∧ (q.getD j (z, -1, -1)).2.2 < (q.getD k (z, -1, -1)).2.2)
  dis : ∀ j k, j < k → k < q.length → (q.getD j (z, -1, -1)).1 ≠ (q.getD k (z, -1, -1)).1
  all : ∀ i' c', (i' < i ∧ c' < L ∨ i' = i ∧ c' < c) → i' < q.length → ∀ t, ch (q.getD i' (z, -1, -1)).1 c' = some t →
    ∃ j, j < q.length ∧ (q.getD j (z, -1, -1)).1 = t ∧ (j = 0 ∨ (q.getD j (z, -1, -1)).2.1 < (i' : Int) ∨ ((q.getD j (z, -1, -1)).2.1 = (i' : Int) ∧ (q.getD j (z, -1, -1)).2.2 ≤ (c' : Int)))
theorem getD_app_lt {α : Type} {l m : List α} {j : Nat} (h : j < l.length) (d : α) : (l ++ m).getD j d = l.getD j d := by
  simp [List.getD, List.getElem?_append_left h]
theorem getD_app_at {α : Type} {l : List α} {x : α} (d : α) : (l ++ [x]).getD l.length d = x := by
  simp [List.getD]
theorem BInv.init (ch : S2 → Nat → Option S2) (z : S2) (L : Nat) : BInv ch z L [(z, -1, -1)] 0 0 where
  pos := by simp
  head := rfl
  up := fun j h1 h2 => by simp at h2; omega
  inc := fun j k h1 h2 h3 => by simp at h3; omega
  dis := fun j k h1 h2 => by simp at h2; omega
  all := fun i' c' h => by omega
theorem BInv.step {ch : S2 → Nat → Option S2} {z : S2} {L : Nat} {q : List (QE S2)} {i c : Nat} (h : BInv ch z L q i c) (hi : i < q.length) (hc : c < L) : BInv ch z L (bStep ch z i c q) i (c + 1) := by
  have keep : ∀ t, ch (q.getD i (z, -1, -1)).1 c = some t → (q.any fun e => e.1 == t) = true → BInv ch z L q i (c + 1) := fun t ht ha => by
    refine ⟨h.pos, h.head, fun j h1 h2 => ?_, h.inc, h.dis, fun i' c' hq hl t' ht' => ?_⟩
    · obtain ⟨u, b, g1, g2, g3, g4, g5⟩ := h.up j h1 h2
      exact ⟨u, b, g1, g2, g3, g4, by omega⟩
    · by_cases hnew : i' = i ∧ c' = c
      · obtain ⟨rfl, rfl⟩ := hnew
        rw [ht] at ht'; cases ht'
        rw [List.any_eq_true] at ha
        obtain ⟨e, he, hee⟩ := ha
        obtain ⟨j, hj, rfl⟩ := List.getElem_of_mem he
        have eg : q.getD j (z, -1, -1) = q[j] := by simp [List.getD, List.getElem?_eq_getElem hj]
        refine ⟨j, hj, by rw [eg]; exact eq_of_beq hee, ?_⟩
        rcases Nat.eq_zero_or_pos j with rfl | hp
        · exact .inl rfl
        · obtain ⟨u, b, g1, g2, g3, g4, g5⟩ := h.up j hp hj
          rw [g1]; simp only; omega
      · exact h.all i' c' (by omega) hl t' ht'
  unfold bStep
  split
  · rename_i t ht
    split
    · rename_i ha; exact keep t ht ha
    · rename_i ha
      have hlen : (q ++ [(t, (i : Int), (c : Int))]).length = q.length + 1 := by simp
      have old : ∀ j, j < q.length → (q ++ [(t, (i : Int), (c : Int))]).getD j (z, -1, -1) = q.getD j (z, -1, -1) := fun j hj => getD_app_lt hj _
      have new : (q ++ [(t, (i : Int), (c : Int))]).getD q.length (z, -1, -1) = (t, (i : Int), (c : Int)) := getD_app_at _
      have hnot : ∀ j, j < q.length → (q.getD j (z, -1, -1)).1 ≠ t := fun j hj e => by
        apply ha
        rw [List.any_eq_true]
        refine ⟨q[j], List.getElem_mem _, ?_⟩
        have eg : q.getD j (z, -1, -1) = q[j] := by simp [List.getD, List.getElem?_eq_getElem hj]
        rw [← eg, e]; exact beq_self_eq_true _
      refine ⟨by omega, by rw [old 0 h.pos]; exact h.head, fun j h1 h2 => ?_, fun j k h1 h2 h3 => ?_, fun j k h1 h2 => ?_, fun i' c' hq hl t' ht' => ?_⟩
      · rcases Nat.lt_or_ge j q.length with g | g
        · obtain ⟨u, b, g1, g2, g3, g4, g5⟩ := h.up j h1 g
          exact ⟨u, b, by rw [old j g]; exact g1, g2, g3, by rw [old u (by omega), old j g]; exact g4, by omega⟩
        · obtain rfl : j = q.length := by omega
          exact ⟨i, c, by rw [new], by omega, hc, by rw [old i hi, new]; exact ht, by omega⟩
      · rcases Nat.lt_or_ge k q.length with g | g
        · rw [old j (by omega), old k g]; exact h.inc j k h1 h2 g
        · obtain rfl : k = q.length := by omega
          obtain ⟨u, b, g1, g2, g3, g4, g5⟩ := h.up j h1 (by omega)
          rw [old j (by omega), new, g1]
          simp only; omega
      · rcases Nat.lt_or_ge k q.length with g | g
        · rw [old j (by omega), old k g]; exact h.dis j k h1 g
        · obtain rfl : k = q.length := by omega
          rw [old j (by omega), new]; exact hnot j (by omega)
      · by_cases hnew : i' = i ∧ c' = c
        · obtain ⟨rfl, rfl⟩ := hnew
          rw [old _ hi, ht] at ht'; cases ht'
          refine ⟨q.length, by omega, by rw [new], ?_⟩
          rw [new]; simp
        · have hil : i' < q.length := by omega
          rw [old i' hil] at ht'
          obtain ⟨j, g1, g2, g3⟩ := h.all i' c' (by omega) hil t' ht'
          refine ⟨j, by omega, by rw [old j g1]; exact g2, ?_⟩
          rw [old j g1]; exact g3
  · rename_i hn
    refine ⟨h.pos, h.head, fun j h1 h2 => ?_, h.inc, h.dis, fun i' c' hq hl t' ht' => ?_⟩
    · obtain ⟨u, b, g1, g2, g3, g4, g5⟩ := h.up j h1 h2
      exact ⟨u, b, g1, g2, g3, g4, by omega⟩
    · by_cases hnew : i' = i ∧ c' = c
      · obtain ⟨rfl, rfl⟩ := hnew
        rw [hn] at ht'; cases ht'
      · exact h.all i' c' (by omega) hl t' ht'
theorem bStep_len (ch : S2 → Nat → Option S2) (z : S2) (i c : Nat) (q : List (QE S2)) : q.length ≤ (bStep ch z i c q).length := by
  unfold bStep
  split
  · split
    · exact Nat.le_refl _
    · simp
  · exact Nat.le_refl _
theorem BInv.row {ch : S2 → Nat → Option S2} {z : S2} {L : Nat} {q : List (QE S2)} {i : Nat} (h : BInv ch z L q i 0) (hi : i < q.length) : ∀ c, c ≤ L → BInv ch z L (bRow ch z i q c) i c ∧ i < (bRow ch z i q c).length
  | 0, _ => ⟨h, hi⟩
  | c + 1, hc => by
    obtain ⟨g1, g2⟩ := BInv.row h hi c (by omega)
    exact ⟨g1.step g2 (by omega), Nat.lt_of_lt_of_le g2 (bStep_len _ _ _ _ _)⟩
theorem BInv.next {ch : S2 → Nat → Option S2} {z : S2} {L : Nat} {q : List (QE S2)} {i : Nat} (h : BInv ch z L q i L) : BInv ch z L q (i + 1) 0 where
  pos := h.pos
  head := h.head
  up := fun j h1 h2 => by
    obtain ⟨u, b, g1, g2, g3, g4, g5⟩ := h.up j h1 h2
    exact ⟨u, b, g1, g2, g3, g4, by omega⟩
  inc := h.inc
  dis := h.dis
  all := fun i' c' hq => h.all i' c' (by omega)
theorem BInv.code {ch : S2 → Nat → Option S2} {z : S2} {L : Nat} {q : List (QE S2)} {i c : Nat} (h : BInv ch z L q i c) {n : Nat} (hn : q.length ≤ n) : ∀ j, j < q.length → ∀ m, j < m → m ≤ n →
    (∀ x ∈ wordQ z q m j, x < L) ∧ bRun ch z (wordQ z q m j) = some (q.getD j (z, -1, -1)).1 ∧ wordQ z q m j = wordQ z q n j ∧ (∀ j', j' < j → cde L (wordQ z q n j') < cde L (wordQ z q n j)) ∧
      (1 ≤ j → cde L (wordQ z q n j) = cde L (wordQ z q n (q.getD j (z, -1, -1)).2.1.toNat) * L + (q.getD j (z, -1, -1)).2.2.toNat + 1) := by
  intro j
  induction j using Nat.strongRecOn with
  | ind j ih =>
    intro hj m hm hmn
    obtain ⟨m', rfl⟩ : ∃ m', m = m' + 1 := ⟨m - 1, by omega⟩
    obtain ⟨n', rfl⟩ : ∃ n', n = n' + 1 := ⟨n - 1, by omega⟩
    rcases Nat.eq_zero_or_pos j with rfl | hp
    · have e : ∀ k, wordQ z q (k + 1) 0 = [] := fun k => by rw [wordQ, h.head]; simp
      refine ⟨by rw [e]; simp, by rw [e, h.head]; rfl, by rw [e, e], fun j' h' => by omega, fun h' => by omega⟩
    · obtain ⟨u, b, g1, g2, g3, g4, g5⟩ := h.up j hp hj
      have e : ∀ k, wordQ z q (k + 1) j = wordQ z q k u ++ [b] := fun k => by rw [wordQ, g1]; simp only; rw [if_neg (by omega)]; simp
      obtain ⟨i1, i2, i3, i4, _⟩ := ih u g2 (by omega) m' (by omega) (by omega)
      obtain ⟨k1, k2, k3, _⟩ := ih u g2 (by omega) n' (by omega) (by omega)
      refine ⟨?_, ?_, ?_, ?_, ?_⟩
      · rw [e]
        intro x hx
        rcases List.mem_append.1 hx with q1 | q1
        · exact i1 x q1
        · rw [List.mem_singleton.1 q1]; exact g3
      · rw [e, bRun_snoc, i2]; exact g4
      · rw [e, e, i3, k3]
      · intro j' hj'
        rw [e n', k3, cde_snoc]
        rcases Nat.eq_zero_or_pos j' with rfl | hp'
        · have e0 : wordQ z q (n' + 1) 0 = [] := by rw [wordQ, h.head]; simp
          rw [e0, cde_nil]; omega
        · obtain ⟨u', b', f1, f2, f3, f4, f5⟩ := h.up j' hp' (by omega)
          have e' : wordQ z q (n' + 1) j' = wordQ z q n' u' ++ [b'] := by rw [wordQ, f1]; simp only; rw [if_neg (by omega)]; simp
          obtain ⟨_, _, l3, l4, _⟩ := ih u' (by omega) (by omega) n' (by omega) (by omega)
          rw [e', cde_snoc, l3]
          have hinc := h.inc j' j hp' hj' hj
          rw [f1, g1] at hinc
          simp only at hinc
          rcases hinc with q1 | ⟨q1, q2⟩
          · have hcd := (ih u g2 (by omega) (n' + 1) (by omega) (Nat.le_refl _)).2.2.2.1 u' (by omega)
            have : (cde L (wordQ z q (n' + 1) u') + 1) * L ≤ cde L (wordQ z q (n' + 1) u) * L := Nat.mul_le_mul hcd (Nat.le_refl _)
            rw [Nat.add_mul, Nat.one_mul] at this
            omega
          · obtain rfl : u' = u := by omega
            omega
      · intro _
        rw [e n', k3, cde_snoc, g1]
        simp
theorem BInv.mono {ch : S2 → Nat → Option S2} {z : S2} {L : Nat} {q : List (QE S2)} {i c : Nat} (h : BInv ch z L q i c) {a b : Nat} (hab : a < b) (hb : b < q.length) : cde L (wordQ z q q.length a) < cde L (wordQ z q q.length b) :=
  (h.code (Nat.le_refl _) b hb q.length hb (Nat.le_refl _)).2.2.2.1 a hab
end
theorem nodup_len : ∀ (n : Nat) (l : List Nat), l.Nodup → (∀ x ∈ l, x < n) → l.length ≤ n
  | 0, l, _, h => by
    cases l with
    | nil => simp
    | cons x l => have := h x (by simp); omega
  | n + 1, l, hd, h => by
    have hd' : (l.erase n).Nodup := hd.erase n
    have := nodup_len n (l.erase n) hd' fun x hx => by
      have h1 := h x (List.mem_of_mem_erase hx)
      have h2 : x ≠ n := fun e => by subst e; exact (List.Nodup.not_mem_erase hd) hx
      omega
    have hl := List.length_erase (a := n) (l := l)
    split at hl <;> omega
section
theorem BInv.len {ch : S2 → Nat → Option S2} {z : S2} {L : Nat} {q : List (QE S2)} {i c : Nat} (h : BInv ch z L q i c) (enc : S2 → Nat) (B : Nat) (hz : enc z < B) (hb : ∀ s x t, ch s x = some t → enc t < B) (hinj : ∀ s t, (s = z ∨ ∃ r x, ch r x = some s) → (t = z ∨ ∃ r x, ch r x = some t) → enc s = enc t → s = t) : q.length ≤ B := by
  have hst : ∀ j, j < q.length → ((q.getD j (z, -1, -1)).1 = z ∨ ∃ r x, ch r x = some (q.getD j (z, -1, -1)).1) := fun j hj => by
    rcases Nat.eq_zero_or_pos j with rfl | hp
    · left; rw [h.head]
    · obtain ⟨u, b, _, _, _, g4, _⟩ := h.up j hp hj
      exact .inr ⟨_, _, g4⟩
  have hg : ∀ j (hj : j < q.length), q.getD j (z, -1, -1) = q[j] := fun j hj => by simp [List.getD, List.getElem?_eq_getElem hj]
  have := nodup_len B (q.map fun e => enc e.1) (by
    rw [List.nodup_iff_pairwise_ne, List.pairwise_iff_getElem]
    intro a b ha hb' hab e
    simp only [List.getElem_map, List.length_map] at ha hb' e
    have h1 := hst a ha
    have h2 := hst b hb'
    have h3 := h.dis a b hab hb'
    rw [hg a ha] at h1 h3
    rw [hg b hb'] at h2 h3
    exact h3 (hinj _ _ h1 h2 e)) (fun x hx => by
    obtain ⟨e, he, rfl⟩ := List.mem_map.1 hx
    obtain ⟨j, hj, rfl⟩ := List.getElem_of_mem he
    rcases hst j hj with q1 | ⟨r, x, q1⟩
    · rw [hg j hj] at q1; rw [q1]; exact hz
    · rw [hg j hj] at q1; exact hb _ _ _ q1)
  simpa using this
end
def cl (c : List Int) (t : Int) : Int := c.getD t.toNat 0
def dead (c : List Int) (t : Int) : Bool := decide (t < 0) || decide (cl c t < 0)
def oAdd (c l : List Int) (t : Int) : List Int := if dead c t = true then l else if (l.map (cl c)).contains (cl c t) = true then l else l ++ [t]
def oRow (N : List (List Int)) (c l : List Int) (s : Nat) : Nat → List Int
  | 0 => l
  | a + 1 => oAdd c (oRow N c l s a) ((N.getD s []).getD a 0)
def oStp (N : List (List Int)) (c l : List Int) (i : Nat) : List Int := oRow N c l (l.getD i 0).toNat (N.getD (l.getD i 0).toNat []).length
def oQ (N : List (List Int)) (c : List Int) (st : Nat) : Nat → List Int
  | 0 => [(st : Int)]
  | i + 1 => if i < (oQ N c st i).length then oStp N c (oQ N c st i) i else oQ N c st i
def oAll (N : List (List Int)) (c : List Int) (st : Nat) : List Int := oQ N c st N.length
def oNum (c q : List Int) (t : Int) : Int := if dead c t = true then -1 else (((q.map (cl c)).idxOf (cl c t) : Nat) : Int)
def oFin (F : List Bool) (q : List Int) : List Bool := q.map fun s => F.getD s.toNat false
def oNx (N : List (List Int)) (c q : List Int) : List (List Int) := q.map fun s => (N.getD s.toNat []).map (oNum c q)
def intK (x : Int) : Value := .int .i64 x
theorem keyEq_int (x y : Int) : keyEq (intK x) (intK y) = (y == x) := by
  rw [show keyEq (intK x) (intK y) = (x == y) from rfl, Bool.eq_iff_iff, beq_iff_eq, beq_iff_eq]
  exact eq_comm
structure OI (k : Nat) (c q : List Int) : Prop where
  mem : ∀ s ∈ q, 0 ≤ s ∧ s < (k : Int) ∧ 0 ≤ cl c s
  nd : (q.map (cl c)).Nodup
section
variable {L k : Nat} {N : List (List Int)} {c : List Int}
theorem oAdd_pre (q : List Int) (t : Int) : ∃ u, oAdd c q t = q ++ u := by
  unfold oAdd
  split
  · exact ⟨[], by simp⟩
  · split
    · exact ⟨[], by simp⟩
    · exact ⟨[t], rfl⟩
theorem oAdd_has {q : List Int} {t : Int} (h : dead c t = false) : cl c t ∈ (oAdd c q t).map (cl c) := by
  unfold oAdd
  rw [h, if_neg (by simp)]
  split
  · rename_i g; simpa using g
  · simp
theorem oAdd_oi {q : List Int} {t : Int} (h : OI k c q) (ht : t < (k : Int)) : OI k c (oAdd c q t) := by
  unfold oAdd
  split
  · exact h
  · rename_i hd
    simp only [dead, Bool.or_eq_true, decide_eq_true_eq, not_or] at hd
    split
    · exact h
    · rename_i hn
      refine ⟨fun s hs => ?_, ?_⟩
      · rcases List.mem_append.1 hs with g | g
        · exact h.mem s g
        · rw [List.mem_singleton] at g; subst g; omega
      · rw [List.map_append, List.nodup_append]
        refine ⟨h.nd, by simp, fun x hx y hy => ?_⟩
        simp only [List.map_cons, List.map_nil, List.mem_singleton] at hy
        subst hy
        rintro rfl
        exact hn (by simpa using hx)
theorem oRow_pre (q : List Int) (s : Nat) : ∀ a, ∃ u, oRow N c q s a = q ++ u
  | 0 => ⟨[], by simp [oRow]⟩
  | a + 1 => by
    obtain ⟨u, hu⟩ := oRow_pre q s a
    obtain ⟨v, hv⟩ := oAdd_pre (c := c) (oRow N c q s a) ((N.getD s []).getD a 0)
    exact ⟨u ++ v, by rw [oRow, hv, hu, List.append_assoc]⟩
theorem oRow_pre2 (q : List Int) (s a : Nat) : ∀ b, ∃ u, oRow N c q s (a + b) = oRow N c q s a ++ u
  | 0 => ⟨[], by simp⟩
  | b + 1 => by
    obtain ⟨u, hu⟩ := oRow_pre2 q s a b
    obtain ⟨v, hv⟩ := oAdd_pre (c := c) (oRow N c q s (a + b)) ((N.getD s []).getD (a + b) 0)
    exact ⟨u ++ v, by rw [← Nat.add_assoc, oRow, hv, hu, List.append_assoc]⟩
theorem NOk.at (h : NOk L k N) {s a : Nat} (hs : s < k) (ha : a < L) : -1 ≤ (N.getD s []).getD a 0 ∧ (N.getD s []).getD a 0 < (k : Int) := by
  have hr := h.get hs
  have hc' : a < (N.getD s []).length := by omega
  have e : (N.getD s []).getD a 0 = (N.getD s [])[a] := by
    generalize N.getD s [] = w at hc' ⊢
    simp [List.getD, List.getElem?_eq_getElem hc']
  rw [e]; exact hr.2 _ (List.getElem_mem _)
theorem oRow_oi (h : NOk L k N) {q : List Int} (hq : OI k c q) {s : Nat} (hs : s < k) : ∀ a, a ≤ L → OI k c (oRow N c q s a)
  | 0, _ => hq
  | a + 1, ha => oAdd_oi (oRow_oi h hq hs a (by omega)) (h.at hs (by omega)).2
theorem OI.get {q : List Int} (hq : OI k c q) {i : Nat} (hi : i < q.length) : ∃ n : Nat, q.getD i 0 = (n : Int) ∧ n < k ∧ 0 ≤ c.getD n 0 := by
  have e : q.getD i 0 = q[i] := by simp [List.getD, List.getElem?_eq_getElem hi]
  obtain ⟨h1, h2, h3⟩ := hq.mem _ (List.getElem_mem hi)
  obtain ⟨n, hn⟩ := Int.eq_ofNat_of_zero_le h1
  rw [hn] at h2 h3
  refine ⟨n, by rw [e, hn], by omega, ?_⟩
  have e2 : cl c ((Int.ofNat n)) = c.getD n 0 := rfl
  rw [← e2]; exact h3
theorem oQ_oi (h : NOk L k N) {st : Nat} (hst : st < k) (h0 : 0 ≤ c.getD st 0) : ∀ i, OI k c (oQ N c st i)
  | 0 => ⟨fun s hs => by
      simp only [oQ, List.mem_singleton] at hs
      subst hs
      refine ⟨by omega, by omega, by simpa [cl] using h0⟩, by simp [oQ]⟩
  | i + 1 => by
    have ih := oQ_oi h hst h0 i
    rw [oQ]
    split
    · rename_i hi
      obtain ⟨n, hn, hk, _⟩ := ih.get hi
      unfold oStp
      rw [hn, Int.toNat_natCast]
      exact oRow_oi h ih hk _ (Nat.le_of_eq (h.get hk).1)
    · exact ih
theorem oQ_pre (st i : Nat) : ∃ u, oQ N c st (i + 1) = oQ N c st i ++ u := by
  rw [oQ]
  split
  · exact oRow_pre _ _ _
  · exact ⟨[], by simp⟩
theorem oQ_pre2 (st i : Nat) : ∀ j, ∃ u, oQ N c st (i + j) = oQ N c st i ++ u
  | 0 => ⟨[], by simp⟩
  | j + 1 => by
    obtain ⟨u, hu⟩ := oQ_pre2 st i j
    obtain ⟨v, hv⟩ := oQ_pre (N := N) (c := c) st (i + j)
    exact ⟨u ++ v, by rw [← Nat.add_assoc, hv, hu, List.append_assoc]⟩
theorem oQ_stop (st : Nat) {i : Nat} (hi : ¬ i < (oQ N c st i).length) : ∀ j, oQ N c st (i + j) = oQ N c st i
  | 0 => rfl
  | j + 1 => by
    have ih := oQ_stop st hi j
    rw [← Nat.add_assoc, oQ, ih, if_neg (by omega)]
theorem OI.len {q : List Int} (hq : OI k c q) (hc : ∀ x ∈ c, x < (k : Int)) (hcl : c.length = k) : q.length ≤ k := by
  have h1 : ((q.map (cl c)).map Int.toNat).Nodup := by
    unfold List.Nodup
    rw [List.pairwise_map]
    refine List.Pairwise.imp_of_mem (fun {x y} hx hy hne e => hne ?_) hq.nd
    obtain ⟨s, hs, rfl⟩ := List.mem_map.1 hx
    obtain ⟨t, ht, rfl⟩ := List.mem_map.1 hy
    have h1 := (hq.mem s hs).2.2
    have h2 := (hq.mem t ht).2.2
    omega
  have h2 := nodup_len k _ h1 fun x hx => by
    obtain ⟨y, hy, rfl⟩ := List.mem_map.1 hx
    obtain ⟨s, hs, rfl⟩ := List.mem_map.1 hy
    obtain ⟨g1, g2, g3⟩ := hq.mem s hs
    have hlt : s.toNat < c.length := by omega
    have : cl c s < (k : Int) := by
      have e : cl c s = c[s.toNat] := by simp [cl, List.getD, List.getElem?_eq_getElem hlt]
      rw [e]; exact hc _ (List.getElem_mem _)
    omega
  simpa using h2
theorem oNum_pre {q u : List Int} {t : Int} (h : dead c t = false → cl c t ∈ q.map (cl c)) : oNum c (q ++ u) t = oNum c q t := by
  unfold oNum
  cases hd : dead c t
  · simp only [Bool.false_eq_true, if_false]
    rw [List.map_append, List.idxOf_append, if_pos (h hd)]
  · rfl
theorem oAll_of {st i : Nat} (hi : i ≤ N.length) (hs : ¬ i < (oQ N c st i).length) : oQ N c st i = oAll N c st := by
  have := oQ_stop (N := N) (c := c) st hs (N.length - i)
  rw [show i + (N.length - i) = N.length by omega] at this
  exact this.symm
theorem oAll_pre {st i : Nat} (hi : i ≤ N.length) : ∃ u, oAll N c st = oQ N c st i ++ u := by
  obtain ⟨u, hu⟩ := oQ_pre2 (N := N) (c := c) st i (N.length - i)
  rw [show i + (N.length - i) = N.length by omega] at hu
  exact ⟨u, hu⟩
theorem oRow_all {st i a : Nat} (hi : i < (oQ N c st i).length) (hik : i < N.length) (ha : a ≤ (N.getD ((oQ N c st i).getD i 0).toNat []).length) : ∃ u, oAll N c st = oRow N c (oQ N c st i) ((oQ N c st i).getD i 0).toNat a ++ u := by
  obtain ⟨u, hu⟩ := oAll_pre (N := N) (c := c) (st := st) (i := i + 1) hik
  rw [oQ, if_pos hi, oStp] at hu
  obtain ⟨v, hv⟩ := oRow_pre2 (N := N) (c := c) (oQ N c st i) ((oQ N c st i).getD i 0).toNat a ((N.getD ((oQ N c st i).getD i 0).toNat []).length - a)
  rw [show a + ((N.getD ((oQ N c st i).getD i 0).toNat []).length - a) = (N.getD ((oQ N c st i).getD i 0).toNat []).length by omega] at hv
  exact ⟨v ++ u, by rw [hu, hv, List.append_assoc]⟩
end
theorem map_range_getD {α β : Type} (f : α → β) (d : α) (l : List α) : (List.range l.length).map (fun a => f (l.getD a d)) = l.map f := by
  apply List.ext_getElem
  · simp
  · intro i h1 h2
    have : i < l.length := by simpa using h2
    simp [List.getD, this]
end Go.Proofs.Ytcpipfodedfpkaa
