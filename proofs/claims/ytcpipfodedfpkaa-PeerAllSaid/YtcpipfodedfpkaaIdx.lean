import Derived.Test.YtcpipfodedfpkaaKm
import Derived.Test.YtcpipfodedfpkaaTy
set_option linter.unusedSimpArgs false
set_option linter.unusedVariables false
namespace Go.Proofs.Ytcpipfodedfpkaa
open Go.Ab
theorem getE {l : List Int} {a : Nat} (h : a < l.length) : l[a] = l.getD a 0 := by simp [List.getD, List.getElem?_eq_getElem h]
theorem toD_neg {N : List (List Int)} {s a : Int} (h : s < 0) : toD N s a = -1 := by unfold toD; rw [if_pos (.inl h)]
theorem ends_cons {F : List Bool} {N : List (List Int)} (s a : Int) (w : List Int) : endsD F N s (a :: w) = endsD F N (toD N s a) w := by
  unfold endsD
  rw [runD]
  by_cases h : s < 0
  · rw [if_pos h, toD_neg h, runD_neg (by decide)]
    simp [show ¬ 0 ≤ s by omega]
  · rw [if_neg h]
theorem ends_neg {F : List Bool} {N : List (List Int)} {s : Int} (h : s < 0) (w : List Int) : endsD F N s w = false := by
  unfold endsD
  rw [runD_neg h]
  simp [show ¬ 0 ≤ s by omega]
section
variable {L k : Nat} {N : List (List Int)} {F : List Bool}
theorem NOk.bnd (h : NOk L k N) (s : Nat) : ∀ t ∈ N.getD s [], t < (N.length : Int) := fun t ht => by
  rcases Nat.lt_or_ge s k with q | q
  · have := (h.get q).2 t ht
    have := h.len
    omega
  · simp [List.getD, List.getElem?_eq_none (show N.length ≤ s by have := h.len; omega)] at ht
theorem live_word (h : NOk L k N) (hF : F.length = k) {s : Nat} (hs : s < k) : (liveL F N).getD s false = true ↔ ∃ w, endsD F N s w = true := by
  have hl := h.len
  rw [live_iff (by omega) h.bnd (by omega)]
  constructor
  · exact run_of_lv (by omega)
  · rintro ⟨w, hw⟩
    have := lv_of_run (by omega) hw
    simpa using this
theorem dead_word (h : NOk L k N) (hF : F.length = k) {s : Nat} (hs : s < k) (hd : (liveL F N).getD s false = false) (w : List Int) : endsD F N s w = false := by
  cases he : endsD F N s w
  · rfl
  · have := (live_word h hF hs).2 ⟨w, he⟩
    rw [hd] at this; cases this
theorem toD_at (h : NOk L k N) {s : Nat} (hs : s < k) {a : Int} (ha : 0 ≤ a ∧ a < (L : Int)) : toD N s a = (N.getD s []).getD a.toNat 0 := by
  unfold toD
  rw [if_neg, Int.toNat_natCast]
  have h1 := h.len
  have h2 := (h.get hs).1
  rw [Int.toNat_natCast, h2]
  omega
theorem toD_far (h : NOk L k N) {s : Nat} (hs : s < k) {a : Int} (ha : ¬ (0 ≤ a ∧ a < (L : Int))) : toD N s a = -1 := by
  unfold toD
  rw [if_pos]
  have h2 := (h.get hs).1
  rw [Int.toNat_natCast, h2]
  omega
theorem kTo_neg {lv : List Bool} {c : List Int} {t : Int} (h : t < 0) : kTo lv c t = -1 := by
  unfold kTo
  rw [if_neg]
  simp only [Bool.and_eq_true, decide_eq_true_eq]
  omega
theorem kTo_to {lv : List Bool} {c : List Int} (h : NOk L k N) {i j : Nat} (hi : i < k) (hj : j < k) (hk : keyL N lv c i = keyL N lv c j) (a : Int) : kTo lv c (toD N i a) = kTo lv c (toD N j a) := by
  by_cases ha : 0 ≤ a ∧ a < (L : Int)
  · rw [toD_at h hi ha, toD_at h hj ha]
    unfold keyL at hk
    have e := (List.cons.inj hk).2
    have e2 := congrArg (fun l : List Int => l[a.toNat]?) e
    simp only [List.getElem?_map] at e2
    have l1 := (h.get hi).1
    have l2 := (h.get hj).1
    generalize N.getD i [] = u at *
    generalize N.getD j [] = v at *
    rw [List.getElem?_eq_getElem (by omega), List.getElem?_eq_getElem (by omega)] at e2
    simp only [Option.map_some, Option.some.injEq] at e2
    simp only [List.getD]
    rw [List.getElem?_eq_getElem (by omega), List.getElem?_eq_getElem (by omega)]
    exact e2
  · rw [toD_far h hi ha, toD_far h hj ha]
theorem clsF_get (h : NOk L k N) (hF : F.length = k) {i : Nat} (hi : i < k) : (clsF F N).getD i 0 = refI N (liveL F N) (clsF F N) i := by
  have hl := h.len
  have e := clsF_fix (F := F) (N := N) (by omega)
  have e2 := refL_get (N := N) (lv := liveL F N) (c := clsF F N) (i := i) (by omega)
  rw [e] at e2; exact e2
theorem clsF_live (h : NOk L k N) (hF : F.length = k) {i : Nat} (hi : i < k) : (liveL F N).getD i false = true ↔ 0 ≤ (clsF F N).getD i 0 := by
  rw [clsF_get h hF hi]
  cases hq : (liveL F N).getD i false
  · rw [refI_dead hq]; simp
  · rw [refI, if_pos hq]; simp
theorem clsF_key (h : NOk L k N) (hF : F.length = k) {i j : Nat} (hi : i < k) (hj : j < k) (li : (liveL F N).getD i false = true) (lj : (liveL F N).getD j false = true) : (clsF F N).getD i 0 = (clsF F N).getD j 0 ↔ keyL N (liveL F N) (clsF F N) i = keyL N (liveL F N) (clsF F N) j := by
  have hl := h.len
  rw [clsF_get h hF hi, clsF_get h hF hj, refI_same (by omega) (by omega) li lj]
theorem clsR_get0 {i : Nat} (hi : i < F.length) : (clsR F N 0).getD i 0 = if (liveL F N).getD i false = true then (if F.getD i false = true then 1 else 0) else -1 := by
  simp [clsR, cls0, List.getD, hi]
theorem clsR_fin (h : NOk L k N) (hF : F.length = k) {i j : Nat} (hi : i < k) (hj : j < k) (li : (liveL F N).getD i false = true) (lj : (liveL F N).getD j false = true) : ∀ r, (clsR F N r).getD i 0 = (clsR F N r).getD j 0 → F.getD i false = F.getD j false
  | 0, e => by
    rw [clsR_get0 (by omega), clsR_get0 (by omega), if_pos li, if_pos lj] at e
    cases h1 : F.getD i false <;> cases h2 : F.getD j false <;> simp only [h1, h2, if_true, Bool.false_eq_true, if_false] at e ⊢ <;> omega
  | r + 1, e => by
    have hl := h.len
    rw [clsR, refL_get (by omega), refL_get (by omega), refI_same (by omega) (by omega) li lj] at e
    exact clsR_fin h hF hi hj li lj r (List.cons.inj e).1
theorem lang_of_cls (h : NOk L k N) (hF : F.length = k) : ∀ (w : List Int) (i j : Nat), i < k → j < k → (liveL F N).getD i false = true → (liveL F N).getD j false = true → (clsF F N).getD i 0 = (clsF F N).getD j 0 → endsD F N i w = endsD F N j w
  | [], i, j, hi, hj, li, lj, e => by
    have := clsR_fin h hF hi hj li lj (F.length + 2) e
    simp only [endsD, runD, Int.toNat_natCast, this]
    simp
  | a :: w, i, j, hi, hj, li, lj, e => by
    rw [ends_cons, ends_cons]
    have hk := kTo_to h hi hj ((clsF_key h hF hi hj li lj).1 e) a
    have b1 := toD_ok h (i : Int) a
    have b2 := toD_ok h (j : Int) a
    generalize toD N i a = s at *
    generalize toD N j a = t at *
    have key : ∀ s : Int, (-1 ≤ s ∧ s < (k : Int) ∨ s = -1) → (kTo (liveL F N) (clsF F N) s = -1 ∧ endsD F N s w = false) ∨ ∃ n : Nat, s = (n : Int) ∧ n < k ∧ (liveL F N).getD n false = true ∧ kTo (liveL F N) (clsF F N) s = (clsF F N).getD n 0 := fun s hs => by
      by_cases h0 : s < 0
      · exact .inl ⟨kTo_neg h0, ends_neg h0 w⟩
      · obtain ⟨n, rfl⟩ := Int.eq_ofNat_of_zero_le (Int.not_lt.1 h0)
        have hn : n < k := by omega
        cases hq : (liveL F N).getD n false
        · refine .inl ⟨?_, dead_word h hF hn hq w⟩
          unfold kTo
          rw [Int.toNat_natCast, hq, Bool.and_false, if_neg (by simp)]
        · refine .inr ⟨n, rfl, hn, hq, ?_⟩
          unfold kTo
          rw [Int.toNat_natCast, hq, if_pos (by simp)]
    rcases key s b1 with ⟨k1, e1⟩ | ⟨n, rfl, n1, n2, k1⟩
    · rcases key t b2 with ⟨k2, e2⟩ | ⟨m, rfl, m1, m2, k2⟩
      · rw [e1, e2]
      · have := (clsF_live h hF m1).1 m2
        omega
    · rcases key t b2 with ⟨k2, e2⟩ | ⟨m, rfl, m1, m2, k2⟩
      · have := (clsF_live h hF n1).1 n2
        omega
      · exact lang_of_cls h hF w n m n1 m1 n2 m2 (by omega)
theorem cls_of_lang (h : NOk L k N) (hF : F.length = k) : ∀ (r : Nat) (i j : Nat), i < k → j < k → (liveL F N).getD i false = true → (liveL F N).getD j false = true → (∀ w, endsD F N i w = endsD F N j w) → (clsR F N r).getD i 0 = (clsR F N r).getD j 0
  | 0, i, j, hi, hj, li, lj, e => by
    rw [clsR_get0 (by omega), clsR_get0 (by omega), if_pos li, if_pos lj]
    have f : ∀ s : Nat, endsD F N s [] = F.getD s false := fun s => by
      simp only [endsD, runD, Int.toNat_natCast]; simp
    have := e []
    rw [f, f] at this
    rw [this]
  | r + 1, i, j, hi, hj, li, lj, e => by
    have hl := h.len
    rw [clsR, refL_get (by omega), refL_get (by omega), refI_same (by omega) (by omega) li lj]
    unfold keyL
    rw [cls_of_lang h hF r i j hi hj li lj e]
    congr 1
    have l1 := (h.get hi).1
    have l2 := (h.get hj).1
    apply List.ext_getElem
    · simp only [List.length_map]; omega
    · intro a h1 h2
      have ha : a < L := by rw [List.length_map] at h1; omega
      have t1 := toD_at h hi (a := (a : Int)) ⟨by omega, by omega⟩
      have t2 := toD_at h hj (a := (a : Int)) ⟨by omega, by omega⟩
      rw [Int.toNat_natCast] at t1 t2
      have b1 := toD_ok h (i : Int) (a : Int)
      have b2 := toD_ok h (j : Int) (a : Int)
      have hw : ∀ w, endsD F N (toD N i a) w = endsD F N (toD N j a) w := fun w => by rw [← ends_cons, ← ends_cons]; exact e _
      have x1 : (N.getD i [])[a]'(by omega) = toD N i a := by rw [t1]; exact getE _
      have x2 : (N.getD j [])[a]'(by omega) = toD N j a := by rw [t2]; exact getE _
      rw [List.getElem_map, List.getElem_map, x1, x2]
      generalize toD N i a = s at *
      generalize toD N j a = t at *
      have key : ∀ s : Int, (-1 ≤ s ∧ s < (k : Int) ∨ s = -1) → (kTo (liveL F N) (clsR F N r) s = -1 ∧ ∀ w, endsD F N s w = false) ∨ ∃ n : Nat, s = (n : Int) ∧ n < k ∧ (liveL F N).getD n false = true ∧ kTo (liveL F N) (clsR F N r) s = (clsR F N r).getD n 0 := fun s hs => by
        by_cases h0 : s < 0
        · exact .inl ⟨kTo_neg h0, ends_neg h0⟩
        · obtain ⟨n, rfl⟩ := Int.eq_ofNat_of_zero_le (Int.not_lt.1 h0)
          have hn : n < k := by omega
          cases hq : (liveL F N).getD n false
          · refine .inl ⟨?_, dead_word h hF hn hq⟩
            unfold kTo
            rw [Int.toNat_natCast, hq, Bool.and_false, if_neg (by simp)]
          · refine .inr ⟨n, rfl, hn, hq, ?_⟩
            unfold kTo
            rw [Int.toNat_natCast, hq, if_pos (by simp)]
      rcases key s b1 with ⟨k1, e1⟩ | ⟨n, rfl, n1, n2, k1⟩
      · rcases key t b2 with ⟨k2, e2⟩ | ⟨m, rfl, m1, m2, k2⟩
        · rw [k1, k2]
        · obtain ⟨w, hx⟩ := (live_word h hF m1).1 m2
          rw [← hw, e1] at hx; cases hx
      · rcases key t b2 with ⟨k2, e2⟩ | ⟨m, rfl, m1, m2, k2⟩
        · obtain ⟨w, hx⟩ := (live_word h hF n1).1 n2
          rw [hw, e2] at hx; cases hx
        · rw [k1, k2]
          exact cls_of_lang h hF r n m n1 m1 n2 m2 hw
end
def cde (L : Nat) : List Nat → Nat := List.foldl (fun c x => c * L + x + 1) 0
theorem cde_nil (L : Nat) : cde L [] = 0 := rfl
theorem cde_snoc (L : Nat) (w : List Nat) (x : Nat) : cde L (w ++ [x]) = cde L w * L + x + 1 := by simp [cde, List.foldl_append]
section
abbrev S2 := Int × Int
abbrev QE (α : Type) := α × Int × Int
def bStep (ch : S2 → Nat → Option S2) (z : S2) (i c : Nat) (q : List (QE S2)) : List (QE S2) := match ch (q.getD i (z, -1, -1)).1 c with
  | some t => if (q.any fun e => e.1 == t) = true then q else q ++ [(t, (i : Int), (c : Int))]
  | none => q
def bRow (ch : S2 → Nat → Option S2) (z : S2) (i : Nat) (q : List (QE S2)) : Nat → List (QE S2)
  | 0 => q
  | c + 1 => bStep ch z i c (bRow ch z i q c)
def bRun (ch : S2 → Nat → Option S2) : S2 → List Nat → Option S2
  | s, [] => some s
  | s, x :: w => (ch s x).bind fun t => bRun ch t w
theorem bRun_snoc (ch : S2 → Nat → Option S2) : ∀ (w : List Nat) (s : S2) (x : Nat), bRun ch s (w ++ [x]) = (bRun ch s w).bind fun t => ch t x
  | [], s, x => by simp [bRun]
  | y :: w, s, x => by
    simp only [List.cons_append, bRun]
    cases ch s y with
    | none => rfl
    | some t => simp only [Option.bind_some]; exact bRun_snoc ch w t x
def wordQ (z : S2) (q : List (QE S2)) : Nat → Nat → List Nat
  | 0, _ => []
  | n + 1, j => if (q.getD j (z, -1, -1)).2.1 < 0 then [] else wordQ z q n (q.getD j (z, -1, -1)).2.1.toNat ++ [(q.getD j (z, -1, -1)).2.2.toNat]
structure BInv (ch : S2 → Nat → Option S2) (z : S2) (L : Nat) (q : List (QE S2)) (i c : Nat) : Prop where
  pos : 1 ≤ q.length
  head : q.getD 0 (z, -1, -1) = (z, -1, -1)
  up : ∀ j, 1 ≤ j → j < q.length → ∃ u b : Nat, (q.getD j (z, -1, -1)).2 = ((u : Int), (b : Int)) ∧ u < j ∧ b < L ∧ ch (q.getD u (z, -1, -1)).1 b = some (q.getD j (z, -1, -1)).1 ∧ (u < i ∨ (u = i ∧ b < c))
  inc : ∀ j k, 1 ≤ j → j < k → k < q.length → (q.getD j (z, -1, -1)).2.1 < (q.getD k (z, -1, -1)).2.1 ∨ ((q.getD j (z, -1, -1)).2.1 = (q.getD k (z, -1, -1)).2.1 ∧ (q.getD j (z, -1, -1)).2.2 < (q.getD k (z, -1, -1)).2.2)
  dis : ∀ j k, j < k → k < q.length → (q.getD j (z, -1, -1)).1 ≠ (q.getD k (z, -1, -1)).1
  all : ∀ i' c', (i' < i ∧ c' < L ∨ i' = i ∧ c' < c) → i' < q.length → ∀ t, ch (q.getD i' (z, -1, -1)).1 c' = some t →
    ∃ j, j < q.length ∧ (q.getD j (z, -1, -1)).1 = t ∧ (j = 0 ∨ (q.getD j (z, -1, -1)).2.1 < (i' : Int) ∨ ((q.getD j (z, -1, -1)).2.1 = (i' : Int) ∧ (q.getD j (z, -1, -1)).2.2 ≤ (c' : Int)))
theorem getD_app_lt {α : Type} {l m : List α} {j : Nat} (h : j < l.length) (d : α) : (l ++ m).getD j d = l.getD j d := by
  simp [List.getD, List.getElem?_append_left h]
theorem getD_app_at {α : Type} {l : List α} {x : α} (d : α) : (l ++ [x]).getD l.length d = x := by
  simp [List.getD]
theorem BInv.init (ch : S2 → Nat → Option S2) (z : S2) (L : Nat) : BInv ch z L [(z, -1, -1)] 0 0 where
  pos := by simp
  head := rfl
  up := fun j h1 h2 => by simp at h2; omega
  inc := fun j k h1 h2 h3 => by simp at h3; omega
  dis := fun j k h1 h2 => by simp at h2; omega
  all := fun i' c' h => by omega
theorem BInv.step {ch : S2 → Nat → Option S2} {z : S2} {L : Nat} {q : List (QE S2)} {i c : Nat} (h : BInv ch z L q i c) (hi : i < q.length) (hc : c < L) : BInv ch z L (bStep ch z i c q) i (c + 1) := by
  have keep : ∀ t, ch (q.getD i (z, -1, -1)).1 c = some t → (q.any fun e => e.1 == t) = true → BInv ch z L q i (c + 1) := fun t ht ha => by
    refine ⟨h.pos, h.head, fun j h1 h2 => ?_, h.inc, h.dis, fun i' c' hq hl t' ht' => ?_⟩
    · obtain ⟨u, b, g1, g2, g3, g4, g5⟩ := h.up j h1 h2
      exact ⟨u, b, g1, g2, g3, g4, by omega⟩
    · by_cases hnew : i' = i ∧ c' = c
      · obtain ⟨rfl, rfl⟩ := hnew
        rw [ht] at ht'; cases ht'
        rw [List.any_eq_true] at ha
        obtain ⟨e, he, hee⟩ := ha
        obtain ⟨j, hj, rfl⟩ := List.getElem_of_mem he
        have eg : q.getD j (z, -1, -1) = q[j] := by simp [List.getD, List.getElem?_eq_getElem hj]
        refine ⟨j, hj, by rw [eg]; exact eq_of_beq hee, ?_⟩
        rcases Nat.eq_zero_or_pos j with rfl | hp
        · exact .inl rfl
        · obtain ⟨u, b, g1, g2, g3, g4, g5⟩ := h.up j hp hj
          rw [g1]; simp only; omega
      · exact h.all i' c' (by omega) hl t' ht'
  unfold bStep
  split
  · rename_i t ht
    split
    · rename_i ha; exact keep t ht ha
    · rename_i ha
      have hlen : (q ++ [(t, (i : Int), (c : Int))]).length = q.length + 1 := by simp
      have old : ∀ j, j < q.length → (q ++ [(t, (i : Int), (c : Int))]).getD j (z, -1, -1) = q.getD j (z, -1, -1) := fun j hj => getD_app_lt hj _
      have new : (q ++ [(t, (i : Int), (c : Int))]).getD q.length (z, -1, -1) = (t, (i : Int), (c : Int)) := getD_app_at _
      have hnot : ∀ j, j < q.length → (q.getD j (z, -1, -1)).1 ≠ t := fun j hj e => by
        apply ha
        rw [List.any_eq_true]
        refine ⟨q[j], List.getElem_mem _, ?_⟩
        have eg : q.getD j (z, -1, -1) = q[j] := by simp [List.getD, List.getElem?_eq_getElem hj]
        rw [← eg, e]; exact beq_self_eq_true _
      refine ⟨by omega, by rw [old 0 h.pos]; exact h.head, fun j h1 h2 => ?_, fun j k h1 h2 h3 => ?_, fun j k h1 h2 => ?_, fun i' c' hq hl t' ht' => ?_⟩
      · rcases Nat.lt_or_ge j q.length with g | g
        · obtain ⟨u, b, g1, g2, g3, g4, g5⟩ := h.up j h1 g
          exact ⟨u, b, by rw [old j g]; exact g1, g2, g3, by rw [old u (by omega), old j g]; exact g4, by omega⟩
        · obtain rfl : j = q.length := by omega
          exact ⟨i, c, by rw [new], by omega, hc, by rw [old i hi, new]; exact ht, by omega⟩
      · rcases Nat.lt_or_ge k q.length with g | g
        · rw [old j (by omega), old k g]; exact h.inc j k h1 h2 g
        · obtain rfl : k = q.length := by omega
          obtain ⟨u, b, g1, g2, g3, g4, g5⟩ := h.up j h1 (by omega)
          rw [old j (by omega), new, g1]
          simp only; omega
      · rcases Nat.lt_or_ge k q.length with g | g
        · rw [old j (by omega), old k g]; exact h.dis j k h1 g
        · obtain rfl : k = q.length := by omega
          rw [old j (by omega), new]; exact hnot j (by omega)
      · by_cases hnew : i' = i ∧ c' = c
        · obtain ⟨rfl, rfl⟩ := hnew
          rw [old _ hi, ht] at ht'; cases ht'
          refine ⟨q.length, by omega, by rw [new], ?_⟩
          rw [new]; simp
        · have hil : i' < q.length := by omega
          rw [old i' hil] at ht'
          obtain ⟨j, g1, g2, g3⟩ := h.all i' c' (by omega) hil t' ht'
          refine ⟨j, by omega, by rw [old j g1]; exact g2, ?_⟩
          rw [old j g1]; exact g3
  · rename_i hn
    refine ⟨h.pos, h.head, fun j h1 h2 => ?_, h.inc, h.dis, fun i' c' hq hl t' ht' => ?_⟩
    · obtain ⟨u, b, g1, g2, g3, g4, g5⟩ := h.up j h1 h2
      exact ⟨u, b, g1, g2, g3, g4, by omega⟩
    · by_cases hnew : i' = i ∧ c' = c
      · obtain ⟨rfl, rfl⟩ := hnew
        rw [hn] at ht'; cases ht'
      · exact h.all i' c' (by omega) hl t' ht'
theorem bStep_len (ch : S2 → Nat → Option S2) (z : S2) (i c : Nat) (q : List (QE S2)) : q.length ≤ (bStep ch z i c q).length := by
  unfold bStep
  split
  · split
    · exact Nat.le_refl _
    · simp
  · exact Nat.le_refl _
theorem BInv.row {ch : S2 → Nat → Option S2} {z : S2} {L : Nat} {q : List (QE S2)} {i : Nat} (h : BInv ch z L q i 0) (hi : i < q.length) : ∀ c, c ≤ L → BInv ch z L (bRow ch z i q c) i c ∧ i < (bRow ch z i q c).length
  | 0, _ => ⟨h, hi⟩
  | c + 1, hc => by
    obtain ⟨g1, g2⟩ := BInv.row h hi c (by omega)
    exact ⟨g1.step g2 (by omega), Nat.lt_of_lt_of_le g2 (bStep_len _ _ _ _ _)⟩
theorem BInv.next {ch : S2 → Nat → Option S2} {z : S2} {L : Nat} {q : List (QE S2)} {i : Nat} (h : BInv ch z L q i L) : BInv ch z L q (i + 1) 0 where
  pos := h.pos
  head := h.head
  up := fun j h1 h2 => by
    obtain ⟨u, b, g1, g2, g3, g4, g5⟩ := h.up j h1 h2
    exact ⟨u, b, g1, g2, g3, g4, by omega⟩
  inc := h.inc
  dis := h.dis
  all := fun i' c' hq => h.all i' c' (by omega)
theorem BInv.code {ch : S2 → Nat → Option S2} {z : S2} {L : Nat} {q : List (QE S2)} {i c : Nat} (h : BInv ch z L q i c) {n : Nat} (hn : q.length ≤ n) : ∀ j, j < q.length → ∀ m, j < m → m ≤ n →
    (∀ x ∈ wordQ z q m j, x < L) ∧ bRun ch z (wordQ z q m j) = some (q.getD j (z, -1, -1)).1 ∧ wordQ z q m j = wordQ z q n j ∧ (∀ j', j' < j → cde L (wordQ z q n j') < cde L (wordQ z q n j)) ∧
      (1 ≤ j → cde L (wordQ z q n j) = cde L (wordQ z q n (q.getD j (z, -1, -1)).2.1.toNat) * L + (q.getD j (z, -1, -1)).2.2.toNat + 1) := by
  intro j
  induction j using Nat.strongRecOn with
  | ind j ih =>
    intro hj m hm hmn
    obtain ⟨m', rfl⟩ : ∃ m', m = m' + 1 := ⟨m - 1, by omega⟩
    obtain ⟨n', rfl⟩ : ∃ n', n = n' + 1 := ⟨n - 1, by omega⟩
    rcases Nat.eq_zero_or_pos j with rfl | hp
    · have e : ∀ k, wordQ z q (k + 1) 0 = [] := fun k => by rw [wordQ, h.head]; simp
      refine ⟨by rw [e]; simp, by rw [e, h.head]; rfl, by rw [e, e], fun j' h' => by omega, fun h' => by omega⟩
    · obtain ⟨u, b, g1, g2, g3, g4, g5⟩ := h.up j hp hj
      have e : ∀ k, wordQ z q (k + 1) j = wordQ z q k u ++ [b] := fun k => by rw [wordQ, g1]; simp only; rw [if_neg (by omega)]; simp
      obtain ⟨i1, i2, i3, i4, _⟩ := ih u g2 (by omega) m' (by omega) (by omega)
      obtain ⟨k1, k2, k3, _⟩ := ih u g2 (by omega) n' (by omega) (by omega)
      refine ⟨?_, ?_, ?_, ?_, ?_⟩
      · rw [e]
        intro x hx
        rcases List.mem_append.1 hx with q1 | q1
        · exact i1 x q1
        · rw [List.mem_singleton.1 q1]; exact g3
      · rw [e, bRun_snoc, i2]; exact g4
      · rw [e, e, i3, k3]
      · intro j' hj'
        rw [e n', k3, cde_snoc]
        rcases Nat.eq_zero_or_pos j' with rfl | hp'
        · have e0 : wordQ z q (n' + 1) 0 = [] := by rw [wordQ, h.head]; simp
          rw [e0, cde_nil]; omega
        · obtain ⟨u', b', f1, f2, f3, f4, f5⟩ := h.up j' hp' (by omega)
          have e' : wordQ z q (n' + 1) j' = wordQ z q n' u' ++ [b'] := by rw [wordQ, f1]; simp only; rw [if_neg (by omega)]; simp
          obtain ⟨_, _, l3, l4, _⟩ := ih u' (by omega) (by omega) n' (by omega) (by omega)
          rw [e', cde_snoc, l3]
          have hinc := h.inc j' j hp' hj' hj
          rw [f1, g1] at hinc
          simp only at hinc
          rcases hinc with q1 | ⟨q1, q2⟩
          · have hcd := (ih u g2 (by omega) (n' + 1) (by omega) (Nat.le_refl _)).2.2.2.1 u' (by omega)
            have : (cde L (wordQ z q (n' + 1) u') + 1) * L ≤ cde L (wordQ z q (n' + 1) u) * L := Nat.mul_le_mul hcd (Nat.le_refl _)
            rw [Nat.add_mul, Nat.one_mul] at this
            omega
          · obtain rfl : u' = u := by omega
            omega
      · intro _
        rw [e n', k3, cde_snoc, g1]
        simp
theorem BInv.mono {ch : S2 → Nat → Option S2} {z : S2} {L : Nat} {q : List (QE S2)} {i c : Nat} (h : BInv ch z L q i c) {a b : Nat} (hab : a < b) (hb : b < q.length) : cde L (wordQ z q q.length a) < cde L (wordQ z q q.length b) :=
  (h.code (Nat.le_refl _) b hb q.length hb (Nat.le_refl _)).2.2.2.1 a hab
end
theorem nodup_len : ∀ (n : Nat) (l : List Nat), l.Nodup → (∀ x ∈ l, x < n) → l.length ≤ n
  | 0, l, _, h => by
    cases l with
    | nil => simp
    | cons x l => have := h x (by simp); omega
  | n + 1, l, hd, h => by
    have hd' : (l.erase n).Nodup := hd.erase n
    have := nodup_len n (l.erase n) hd' fun x hx => by
      have h1 := h x (List.mem_of_mem_erase hx)
      have h2 : x ≠ n := fun e => by subst e; exact (List.Nodup.not_mem_erase hd) hx
      omega
    have hl := List.length_erase (a := n) (l := l)
    split at hl <;> omega
section
theorem BInv.len {ch : S2 → Nat → Option S2} {z : S2} {L : Nat} {q : List (QE S2)} {i c : Nat} (h : BInv ch z L q i c) (enc : S2 → Nat) (B : Nat) (hz : enc z < B) (hb : ∀ s x t, ch s x = some t → enc t < B) (hinj : ∀ s t, (s = z ∨ ∃ r x, ch r x = some s) → (t = z ∨ ∃ r x, ch r x = some t) → enc s = enc t → s = t) : q.length ≤ B := by
  have hst : ∀ j, j < q.length → ((q.getD j (z, -1, -1)).1 = z ∨ ∃ r x, ch r x = some (q.getD j (z, -1, -1)).1) := fun j hj => by
    rcases Nat.eq_zero_or_pos j with rfl | hp
    · left; rw [h.head]
    · obtain ⟨u, b, _, _, _, g4, _⟩ := h.up j hp hj
      exact .inr ⟨_, _, g4⟩
  have hg : ∀ j (hj : j < q.length), q.getD j (z, -1, -1) = q[j] := fun j hj => by simp [List.getD, List.getElem?_eq_getElem hj]
  have := nodup_len B (q.map fun e => enc e.1) (by
    rw [List.nodup_iff_pairwise_ne, List.pairwise_iff_getElem]
    intro a b ha hb' hab e
    simp only [List.getElem_map, List.length_map] at ha hb' e
    have h1 := hst a ha
    have h2 := hst b hb'
    have h3 := h.dis a b hab hb'
    rw [hg a ha] at h1 h3
    rw [hg b hb'] at h2 h3
    exact h3 (hinj _ _ h1 h2 e)) (fun x hx => by
    obtain ⟨e, he, rfl⟩ := List.mem_map.1 hx
    obtain ⟨j, hj, rfl⟩ := List.getElem_of_mem he
    rcases hst j hj with q1 | ⟨r, x, q1⟩
    · rw [hg j hj] at q1; rw [q1]; exact hz
    · rw [hg j hj] at q1; exact hb _ _ _ q1)
  simpa using this
end
def cl (c : List Int) (t : Int) : Int := c.getD t.toNat 0
def dead (c : List Int) (t : Int) : Bool := decide (t < 0) || decide (cl c t < 0)
def oAdd (c l : List Int) (t : Int) : List Int := if dead c t = true then l else if (l.map (cl c)).contains (cl c t) = true then l else l ++ [t]
def oRow (N : List (List Int)) (c l : List Int) (s : Nat) : Nat → List Int
  | 0 => l
  | a + 1 => oAdd c (oRow N c l s a) ((N.getD s []).getD a 0)
def oStp (N : List (List Int)) (c l : List Int) (i : Nat) : List Int := oRow N c l (l.getD i 0).toNat (N.getD (l.getD i 0).toNat []).length
def oQ (N : List (List Int)) (c : List Int) (st : Nat) : Nat → List Int
  | 0 => [(st : Int)]
  | i + 1 => if i < (oQ N c st i).length then oStp N c (oQ N c st i) i else oQ N c st i
def oAll (N : List (List Int)) (c : List Int) (st : Nat) : List Int := oQ N c st N.length
def oNum (c q : List Int) (t : Int) : Int := if dead c t = true then -1 else (((q.map (cl c)).idxOf (cl c t) : Nat) : Int)
def oFin (F : List Bool) (q : List Int) : List Bool := q.map fun s => F.getD s.toNat false
def oNx (N : List (List Int)) (c q : List Int) : List (List Int) := q.map fun s => (N.getD s.toNat []).map (oNum c q)
def intK (x : Int) : Value := .int .i64 x
theorem keyEq_int (x y : Int) : keyEq (intK x) (intK y) = (y == x) := by
  rw [show keyEq (intK x) (intK y) = (x == y) from rfl, Bool.eq_iff_iff, beq_iff_eq, beq_iff_eq]
  exact eq_comm
structure OI (k : Nat) (c q : List Int) : Prop where
  mem : ∀ s ∈ q, 0 ≤ s ∧ s < (k : Int) ∧ 0 ≤ cl c s
  nd : (q.map (cl c)).Nodup
section
variable {L k : Nat} {N : List (List Int)} {c : List Int}
theorem oAdd_pre (q : List Int) (t : Int) : ∃ u, oAdd c q t = q ++ u := by
  unfold oAdd
  split
  · exact ⟨[], by simp⟩
  · split
    · exact ⟨[], by simp⟩
    · exact ⟨[t], rfl⟩
theorem oAdd_has {q : List Int} {t : Int} (h : dead c t = false) : cl c t ∈ (oAdd c q t).map (cl c) := by
  unfold oAdd
  rw [h, if_neg (by simp)]
  split
  · rename_i g; simpa using g
  · simp
theorem oAdd_oi {q : List Int} {t : Int} (h : OI k c q) (ht : t < (k : Int)) : OI k c (oAdd c q t) := by
  unfold oAdd
  split
  · exact h
  · rename_i hd
    simp only [dead, Bool.or_eq_true, decide_eq_true_eq, not_or] at hd
    split
    · exact h
    · rename_i hn
      refine ⟨fun s hs => ?_, ?_⟩
      · rcases List.mem_append.1 hs with g | g
        · exact h.mem s g
        · rw [List.mem_singleton] at g; subst g; omega
      · rw [List.map_append, List.nodup_append]
        refine ⟨h.nd, by simp, fun x hx y hy => ?_⟩
        simp only [List.map_cons, List.map_nil, List.mem_singleton] at hy
        subst hy
        rintro rfl
        exact hn (by simpa using hx)
theorem oRow_pre (q : List Int) (s : Nat) : ∀ a, ∃ u, oRow N c q s a = q ++ u
  | 0 => ⟨[], by simp [oRow]⟩
  | a + 1 => by
    obtain ⟨u, hu⟩ := oRow_pre q s a
    obtain ⟨v, hv⟩ := oAdd_pre (c := c) (oRow N c q s a) ((N.getD s []).getD a 0)
    exact ⟨u ++ v, by rw [oRow, hv, hu, List.append_assoc]⟩
theorem oRow_pre2 (q : List Int) (s a : Nat) : ∀ b, ∃ u, oRow N c q s (a + b) = oRow N c q s a ++ u
  | 0 => ⟨[], by simp⟩
  | b + 1 => by
    obtain ⟨u, hu⟩ := oRow_pre2 q s a b
    obtain ⟨v, hv⟩ := oAdd_pre (c := c) (oRow N c q s (a + b)) ((N.getD s []).getD (a + b) 0)
    exact ⟨u ++ v, by rw [← Nat.add_assoc, oRow, hv, hu, List.append_assoc]⟩
theorem NOk.at (h : NOk L k N) {s a : Nat} (hs : s < k) (ha : a < L) : -1 ≤ (N.getD s []).getD a 0 ∧ (N.getD s []).getD a 0 < (k : Int) := by
  have hr := h.get hs
  have hc' : a < (N.getD s []).length := by omega
  have e : (N.getD s []).getD a 0 = (N.getD s [])[a] := by
    generalize N.getD s [] = w at hc' ⊢
    simp [List.getD, List.getElem?_eq_getElem hc']
  rw [e]; exact hr.2 _ (List.getElem_mem _)
theorem oRow_oi (h : NOk L k N) {q : List Int} (hq : OI k c q) {s : Nat} (hs : s < k) : ∀ a, a ≤ L → OI k c (oRow N c q s a)
  | 0, _ => hq
  | a + 1, ha => oAdd_oi (oRow_oi h hq hs a (by omega)) (h.at hs (by omega)).2
theorem OI.get {q : List Int} (hq : OI k c q) {i : Nat} (hi : i < q.length) : ∃ n : Nat, q.getD i 0 = (n : Int) ∧ n < k ∧ 0 ≤ c.getD n 0 := by
  have e : q.getD i 0 = q[i] := by simp [List.getD, List.getElem?_eq_getElem hi]
  obtain ⟨h1, h2, h3⟩ := hq.mem _ (List.getElem_mem hi)
  obtain ⟨n, hn⟩ := Int.eq_ofNat_of_zero_le h1
  rw [hn] at h2 h3
  refine ⟨n, by rw [e, hn], by omega, ?_⟩
  have e2 : cl c ((Int.ofNat n)) = c.getD n 0 := rfl
  rw [← e2]; exact h3
theorem oQ_oi (h : NOk L k N) {st : Nat} (hst : st < k) (h0 : 0 ≤ c.getD st 0) : ∀ i, OI k c (oQ N c st i)
  | 0 => ⟨fun s hs => by
      simp only [oQ, List.mem_singleton] at hs
      subst hs
      refine ⟨by omega, by omega, by simpa [cl] using h0⟩, by simp [oQ]⟩
  | i + 1 => by
    have ih := oQ_oi h hst h0 i
    rw [oQ]
    split
    · rename_i hi
      obtain ⟨n, hn, hk, _⟩ := ih.get hi
      unfold oStp
      rw [hn, Int.toNat_natCast]
      exact oRow_oi h ih hk _ (Nat.le_of_eq (h.get hk).1)
    · exact ih
theorem oQ_pre (st i : Nat) : ∃ u, oQ N c st (i + 1) = oQ N c st i ++ u := by
  rw [oQ]
  split
  · exact oRow_pre _ _ _
  · exact ⟨[], by simp⟩
theorem oQ_pre2 (st i : Nat) : ∀ j, ∃ u, oQ N c st (i + j) = oQ N c st i ++ u
  | 0 => ⟨[], by simp⟩
  | j + 1 => by
    obtain ⟨u, hu⟩ := oQ_pre2 st i j
    obtain ⟨v, hv⟩ := oQ_pre (N := N) (c := c) st (i + j)
    exact ⟨u ++ v, by rw [← Nat.add_assoc, hv, hu, List.append_assoc]⟩
theorem oQ_stop (st : Nat) {i : Nat} (hi : ¬ i < (oQ N c st i).length) : ∀ j, oQ N c st (i + j) = oQ N c st i
  | 0 => rfl
  | j + 1 => by
    have ih := oQ_stop st hi j
    rw [← Nat.add_assoc, oQ, ih, if_neg (by omega)]
theorem OI.len {q : List Int} (hq : OI k c q) (hc : ∀ x ∈ c, x < (k : Int)) (hcl : c.length = k) : q.length ≤ k := by
  have h1 : ((q.map (cl c)).map Int.toNat).Nodup := by
    unfold List.Nodup
    rw [List.pairwise_map]
    refine List.Pairwise.imp_of_mem (fun {x y} hx hy hne e => hne ?_) hq.nd
    obtain ⟨s, hs, rfl⟩ := List.mem_map.1 hx
    obtain ⟨t, ht, rfl⟩ := List.mem_map.1 hy
    have h1 := (hq.mem s hs).2.2
    have h2 := (hq.mem t ht).2.2
    omega
  have h2 := nodup_len k _ h1 fun x hx => by
    obtain ⟨y, hy, rfl⟩ := List.mem_map.1 hx
    obtain ⟨s, hs, rfl⟩ := List.mem_map.1 hy
    obtain ⟨g1, g2, g3⟩ := hq.mem s hs
    have hlt : s.toNat < c.length := by omega
    have : cl c s < (k : Int) := by
      have e : cl c s = c[s.toNat] := by simp [cl, List.getD, List.getElem?_eq_getElem hlt]
      rw [e]; exact hc _ (List.getElem_mem _)
    omega
  simpa using h2
theorem oNum_pre {q u : List Int} {t : Int} (h : dead c t = false → cl c t ∈ q.map (cl c)) : oNum c (q ++ u) t = oNum c q t := by
  unfold oNum
  cases hd : dead c t
  · simp only [Bool.false_eq_true, if_false]
    rw [List.map_append, List.idxOf_append, if_pos (h hd)]
  · rfl
theorem oAll_of {st i : Nat} (hi : i ≤ N.length) (hs : ¬ i < (oQ N c st i).length) : oQ N c st i = oAll N c st := by
  have := oQ_stop (N := N) (c := c) st hs (N.length - i)
  rw [show i + (N.length - i) = N.length by omega] at this
  exact this.symm
theorem oAll_pre {st i : Nat} (hi : i ≤ N.length) : ∃ u, oAll N c st = oQ N c st i ++ u := by
  obtain ⟨u, hu⟩ := oQ_pre2 (N := N) (c := c) st i (N.length - i)
  rw [show i + (N.length - i) = N.length by omega] at hu
  exact ⟨u, hu⟩
theorem oRow_all {st i a : Nat} (hi : i < (oQ N c st i).length) (hik : i < N.length) (ha : a ≤ (N.getD ((oQ N c st i).getD i 0).toNat []).length) : ∃ u, oAll N c st = oRow N c (oQ N c st i) ((oQ N c st i).getD i 0).toNat a ++ u := by
  obtain ⟨u, hu⟩ := oAll_pre (N := N) (c := c) (st := st) (i := i + 1) hik
  rw [oQ, if_pos hi, oStp] at hu
  obtain ⟨v, hv⟩ := oRow_pre2 (N := N) (c := c) (oQ N c st i) ((oQ N c st i).getD i 0).toNat a ((N.getD ((oQ N c st i).getD i 0).toNat []).length - a)
  rw [show a + ((N.getD ((oQ N c st i).getD i 0).toNat []).length - a) = (N.getD ((oQ N c st i).getD i 0).toNat []).length by omega] at hv
  exact ⟨v ++ u, by rw [hu, hv, List.append_assoc]⟩
end
theorem map_range_getD {α β : Type} (f : α → β) (d : α) (l : List α) : (List.range l.length).map (fun a => f (l.getD a d)) = l.map f := by
  apply List.ext_getElem
  · simp
  · intro i h1 h2
    have : i < l.length := by simpa using h2
    simp [List.getD, this]
theorem dead_iff {c : List Int} {t : Int} : dead c t = false ↔ 0 ≤ t ∧ 0 ≤ cl c t := by
  simp only [dead, Bool.or_eq_false_iff, decide_eq_false_iff_not]
  omega
theorem dead_neg {c : List Int} {t : Int} (h : t < 0) : dead c t = true := by
  unfold dead
  rw [decide_eq_true h, Bool.true_or]
theorem oNum_bd {c q : List Int} {t : Int} (h : dead c t = false → cl c t ∈ q.map (cl c)) : -1 ≤ oNum c q t ∧ oNum c q t < (q.length : Int) := by
  unfold oNum
  cases hd : dead c t
  · have h1 := List.idxOf_lt_length_of_mem (h hd)
    rw [List.length_map] at h1
    simp only [Bool.false_eq_true, if_false]
    omega
  · simp only [if_true]; omega
theorem getD_mapI {α : Type} (f : Int → α) (d : α) {q : List Int} {i : Nat} (h : i < q.length) : (q.map f).getD i d = f (q.getD i 0) := by
  simp [List.getD, List.getElem?_eq_getElem h]
structure OA (L k : Nat) (N : List (List Int)) (F : List Bool) (st : Nat) (Q : List Int) : Prop where
  ok : NOk L k N
  hF : F.length = k
  hst : st < k
  h0 : 0 ≤ (clsF F N).getD st 0
  hQ : Q = oAll N (clsF F N) st
section
variable {L k st : Nat} {N : List (List Int)} {F : List Bool} {Q : List Int}
theorem OA.oi (h : OA L k N F st Q) (i : Nat) : OI k (clsF F N) (oQ N (clsF F N) st i) := oQ_oi h.ok h.hst h.h0 i
theorem OA.oiQ (h : OA L k N F st Q) : OI k (clsF F N) Q := by rw [h.hQ]; exact h.oi _
theorem OA.bd (h : OA L k N F st Q) {q : List Int} (hq : OI k (clsF F N) q) : q.length ≤ k := by
  have hl := h.ok.len
  have hF := h.hF
  refine hq.len (fun x hx => ?_) ?_
  · rw [← clsF_fix (F := F) (N := N) (by omega)] at hx
    simp only [refL, List.mem_map, List.mem_range] at hx
    obtain ⟨i, hi, rfl⟩ := hx
    have := refI_bd (lv := liveL F N) (c := clsF F N) i hi
    omega
  · rw [show (clsF F N).length = F.length from clsR_len (by omega) _, hF]
theorem OA.lenQ (h : OA L k N F st Q) : Q.length ≤ k := h.bd h.oiQ
theorem OA.pre (h : OA L k N F st Q) (i : Nat) (hi : i ≤ k) : ∃ u, Q = oQ N (clsF F N) st i ++ u := by
  rw [h.hQ]; exact oAll_pre (by rw [h.ok.len]; exact hi)
theorem OA.lt (h : OA L k N F st Q) {i : Nat} (hi : i < Q.length) : i < (oQ N (clsF F N) st i).length := by
  by_cases g : i < (oQ N (clsF F N) st i).length
  · exact g
  · have hk := h.lenQ
    have := oAll_of (N := N) (c := clsF F N) (st := st) (i := i) (by rw [h.ok.len]; omega) g
    rw [← h.hQ] at this
    rw [this] at g; omega
theorem OA.at_ (h : OA L k N F st Q) {i : Nat} (hi : i < Q.length) : (oQ N (clsF F N) st i).getD i 0 = Q.getD i 0 := by
  have hk := h.lenQ
  obtain ⟨u, hu⟩ := h.pre i (by omega)
  rw [hu, getD_app_lt (h.lt hi)]
theorem OA.st_ (h : OA L k N F st Q) {i : Nat} (hi : i < Q.length) : ∃ s : Nat, Q.getD i 0 = (s : Int) ∧ s < k ∧ (liveL F N).getD s false = true := by
  obtain ⟨s, h1, h2, h3⟩ := h.oiQ.get hi
  exact ⟨s, h1, h2, (clsF_live h.ok h.hF h2).2 h3⟩
theorem OA.row (h : OA L k N F st Q) {i a : Nat} (hi : i < Q.length) (ha : a ≤ L) : ∃ u, Q = oRow N (clsF F N) (oQ N (clsF F N) st i) (Q.getD i 0).toNat a ++ u := by
  have hk := h.lenQ
  have := oRow_all (N := N) (c := clsF F N) (st := st) (i := i) (a := a) (h.lt hi) (by rw [h.ok.len]; omega)
  obtain ⟨s, h1, h2, h3⟩ := h.st_ hi
  rw [h.at_ hi, h1, Int.toNat_natCast, (h.ok.get h2).1, ← h.hQ] at this
  rw [h1, Int.toNat_natCast]
  exact this ha
theorem OA.has (h : OA L k N F st Q) {i s a : Nat} (hi : i < Q.length) (hs : Q.getD i 0 = (s : Int)) (ha : a < L) (hd : dead (clsF F N) ((N.getD s []).getD a 0) = false) : cl (clsF F N) ((N.getD s []).getD a 0) ∈ Q.map (cl (clsF F N)) := by
  obtain ⟨u, hu⟩ := h.row hi (a := a + 1) (by omega)
  rw [hs, Int.toNat_natCast, oRow] at hu
  rw [hu, List.map_append]
  exact List.mem_append_left _ (oAdd_has hd)
theorem OA.q0 (h : OA L k N F st Q) : 0 < Q.length ∧ Q.getD 0 0 = (st : Int) := by
  obtain ⟨u, hu⟩ := h.pre 0 (Nat.zero_le _)
  rw [hu]
  simp [oQ]
theorem OA.cell (h : OA L k N F st Q) {i s a : Nat} (hi : i < Q.length) (hs : Q.getD i 0 = (s : Int)) (hsk : s < k) (ha : a < L) : ((oNx N (clsF F N) Q).getD i []).getD a 0 = oNum (clsF F N) Q ((N.getD s []).getD a 0) := by
  have hr := (h.ok.get hsk).1
  unfold oNx
  rw [getD_mapI _ _ hi, hs, Int.toNat_natCast, getD_mapI _ _ (by omega)]
theorem OA.ok2 (h : OA L k N F st Q) : NOk L Q.length (oNx N (clsF F N) Q) := by
  refine ⟨by simp [oNx], fun r hr => ?_⟩
  unfold oNx at hr
  obtain ⟨s', hs', rfl⟩ := List.mem_map.1 hr
  obtain ⟨i, hi, rfl⟩ := List.getElem_of_mem hs'
  obtain ⟨s, h1, h2, h3⟩ := h.st_ hi
  have e : Q[i] = (s : Int) := by rw [← h1]; exact getE hi
  rw [e, Int.toNat_natCast]
  have hrl := (h.ok.get h2).1
  refine ⟨by rw [List.length_map, hrl], fun t ht => ?_⟩
  obtain ⟨u, hu, rfl⟩ := List.mem_map.1 ht
  obtain ⟨a, ha, rfl⟩ := List.getElem_of_mem hu
  refine oNum_bd fun hd => ?_
  rw [getE ha] at hd ⊢
  exact h.has hi h1 (by omega) hd
theorem OA.hF2 (h : OA L k N F st Q) : (oFin F Q).length = Q.length := by simp [oFin]
theorem OA.lang (h : OA L k N F st Q) : ∀ (w : List Int) (i s : Nat), i < Q.length → Q.getD i 0 = (s : Int) → endsD (oFin F Q) (oNx N (clsF F N) Q) i w = endsD F N s w
  | [], i, s, hi, hs => by
    have f : ∀ (F : List Bool) (N : List (List Int)) (s : Nat), endsD F N s [] = F.getD s false := fun F N s => by
      simp only [endsD, runD, Int.toNat_natCast]; simp
    rw [f, f, oFin, getD_mapI _ _ hi, hs, Int.toNat_natCast]
  | a :: w, i, s, hi, hs => by
    obtain ⟨s', h1, h2, h3⟩ := h.st_ hi
    rw [hs] at h1
    obtain rfl : s = s' := by omega
    rw [ends_cons, ends_cons]
    by_cases ha : 0 ≤ a ∧ a < (L : Int)
    · obtain ⟨b, rfl⟩ := Int.eq_ofNat_of_zero_le ha.1
      have hb : b < L := by omega
      rw [toD_at h.ok2 hi ha, toD_at h.ok h2 ha, Int.toNat_natCast, h.cell hi hs h2 hb]
      have hhas := h.has hi hs hb
      have htb := h.ok.at h2 hb
      generalize (N.getD s []).getD b 0 = t at *
      cases hd : dead (clsF F N) t
      · have hm := hhas hd
        obtain ⟨t0, hc⟩ := dead_iff.1 hd
        obtain ⟨n, rfl⟩ := Int.eq_ofNat_of_zero_le t0
        have hn : n < k := by omega
        have hln := (clsF_live h.ok h.hF hn).2 (by simpa [cl] using hc)
        have hj := List.idxOf_lt_length_of_mem hm
        have hg := List.getElem_idxOf hj
        unfold oNum
        rw [hd, if_neg (by simp)]
        generalize (Q.map (cl (clsF F N))).idxOf (cl (clsF F N) ((n : Nat) : Int)) = j at *
        have hj2 : j < Q.length := by simpa using hj
        rw [List.getElem_map] at hg
        obtain ⟨m, m1, m2, m3⟩ := h.st_ hj2
        rw [h.lang w j m hj2 m1]
        rw [getE hj2, m1] at hg
        exact lang_of_cls h.ok h.hF w m n m2 hn m3 hln (by simpa [cl] using hg)
      · unfold oNum
        rw [hd, if_pos rfl, ends_neg (by decide)]
        by_cases ht : t < 0
        · rw [ends_neg ht]
        · obtain ⟨n, rfl⟩ := Int.eq_ofNat_of_zero_le (Int.not_lt.1 ht)
          have hn : n < k := by omega
          cases hq : (liveL F N).getD n false
          · rw [dead_word h.ok h.hF hn hq]
          · have := (clsF_live h.ok h.hF hn).1 hq
            have hd2 : dead (clsF F N) ((n : Nat) : Int) = false := dead_iff.2 ⟨by omega, by simpa [cl] using this⟩
            rw [hd] at hd2; cases hd2
    · rw [toD_far h.ok2 hi ha, toD_far h.ok h2 ha, ends_neg (by decide), ends_neg (by decide)]
theorem OA.apart (h : OA L k N F st Q) {i j : Nat} (hi : i < Q.length) (hj : j < Q.length) (hw : ∀ w, endsD (oFin F Q) (oNx N (clsF F N) Q) i w = endsD (oFin F Q) (oNx N (clsF F N) Q) j w) : i = j := by
  obtain ⟨s, s1, s2, s3⟩ := h.st_ hi
  obtain ⟨t, t1, t2, t3⟩ := h.st_ hj
  have e : (clsF F N).getD s 0 = (clsF F N).getD t 0 := cls_of_lang h.ok h.hF (F.length + 2) s t s2 t2 s3 t3 fun w => by rw [← h.lang w i s hi s1, ← h.lang w j t hj t1]; exact hw w
  have g1 := getD_mapI (cl (clsF F N)) 0 hi
  have g2 := getD_mapI (cl (clsF F N)) 0 hj
  rw [s1] at g1; rw [t1] at g2
  have e2 : (Q.map (cl (clsF F N))).getD i 0 = (Q.map (cl (clsF F N))).getD j 0 := by
    rw [g1, g2]
    simpa [cl] using e
  have hi2 : i < (Q.map (cl (clsF F N))).length := by simpa using hi
  have hj2 : j < (Q.map (cl (clsF F N))).length := by simpa using hj
  rw [← getE hi2, ← getE hj2] at e2
  exact (List.getElem_inj h.oiQ.nd).1 e2
theorem OA.alive (h : OA L k N F st Q) {i : Nat} (hi : i < Q.length) : (liveL (oFin F Q) (oNx N (clsF F N) Q)).getD i false = true := by
  obtain ⟨s, s1, s2, s3⟩ := h.st_ hi
  obtain ⟨w, hw⟩ := (live_word h.ok h.hF s2).1 s3
  exact (live_word h.ok2 h.hF2 hi).2 ⟨w, by rw [h.lang w i s hi s1]; exact hw⟩
def metO (N : List (List Int)) (c : List Int) (st : Nat) (Q : List Int) (i a : Nat) : Nat := (oRow N c (oQ N c st i) (Q.getD i 0).toNat a).length
theorem OA.met (h : OA L k N F st Q) {i a : Nat} (hi : i < Q.length) (ha : a < L) : ∃ x : Int, ((oNx N (clsF F N) Q).getD i []).getD a 0 = x ∧ -1 ≤ x ∧
    ((x < (metO N (clsF F N) st Q i a : Int) ∧ metO N (clsF F N) st Q i (a + 1) = metO N (clsF F N) st Q i a) ∨ (x = (metO N (clsF F N) st Q i a : Int) ∧ metO N (clsF F N) st Q i (a + 1) = metO N (clsF F N) st Q i a + 1)) := by
  obtain ⟨s, s1, s2, s3⟩ := h.st_ hi
  refine ⟨_, h.cell hi s1 s2 ha, (oNum_bd (h.has hi s1 ha)).1, ?_⟩
  obtain ⟨u, hu⟩ := h.row hi (a := a + 1) (by omega)
  unfold metO
  rw [s1, Int.toNat_natCast] at hu ⊢
  rw [oRow] at hu ⊢
  have hnum := oNum_pre (c := clsF F N) (q := oAdd (clsF F N) (oRow N (clsF F N) (oQ N (clsF F N) st i) s a) ((N.getD s []).getD a 0)) (u := u) (t := (N.getD s []).getD a 0) oAdd_has
  rw [← hu] at hnum
  rw [hnum]
  generalize oRow N (clsF F N) (oQ N (clsF F N) st i) s a = q
  generalize (N.getD s []).getD a 0 = t
  cases hd : dead (clsF F N) t
  · cases hc : (q.map (cl (clsF F N))).contains (cl (clsF F N) t)
    · right
      unfold oNum oAdd
      simp only [hd, hc, Bool.false_eq_true, if_false, List.length_append, List.length_cons, List.length_nil]
      rw [List.map_append, List.idxOf_append, if_neg (by simpa using hc)]
      simp
    · left
      have hm : cl (clsF F N) t ∈ q.map (cl (clsF F N)) := by simpa using hc
      have := List.idxOf_lt_length_of_mem hm
      rw [List.length_map] at this
      unfold oNum oAdd
      simp only [hd, hc, Bool.false_eq_true, if_false, if_true]
      exact ⟨by omega, trivial⟩
  · left
    unfold oNum oAdd
    simp only [hd, if_true]
    exact ⟨by omega, trivial⟩
theorem metO_0 (Q : List Int) (i : Nat) : metO N (clsF F N) st Q i 0 = (oQ N (clsF F N) st i).length := rfl
theorem OA.metN (h : OA L k N F st Q) {i : Nat} (hi : i < Q.length) : metO N (clsF F N) st Q i L = (oQ N (clsF F N) st (i + 1)).length := by
  obtain ⟨s, s1, s2, s3⟩ := h.st_ hi
  rw [oQ, if_pos (h.lt hi), oStp, h.at_ hi]
  unfold metO
  rw [s1, Int.toNat_natCast, (h.ok.get s2).1]
theorem kst_own {N : List (List Int)} {F : List Bool} (h : NOk L k N) (hF : F.length = k) (hlv : ∀ i, i < k → (liveL F N).getD i false = true) (hap : ∀ i j, i < k → j < k → (∀ w, endsD F N i w = endsD F N j w) → i = j) : ∀ i, i ≤ k → (kst N (liveL F N) (clsF F N) i).length = i ∧ (i < k → (clsF F N).getD i 0 = (i : Int))
  | i, hik => by
    have hl := h.len
    have hnew : ∀ i, i < k → (kst N (liveL F N) (clsF F N) i).contains (keyL N (liveL F N) (clsF F N) i) = false := fun i hi => by
      rw [Bool.eq_false_iff]
      intro hc
      obtain ⟨j, hj, lj, e⟩ := kst_in (show keyL N (liveL F N) (clsF F N) i ∈ kst N (liveL F N) (clsF F N) i by simpa using hc)
      have e2 := (clsF_key h hF hi (by omega) (hlv i hi) lj).2 e
      have := hap i j hi (by omega) fun w => lang_of_cls h hF w i j hi (by omega) (hlv i hi) lj e2
      omega
    have hlen : ∀ i, i ≤ k → (kst N (liveL F N) (clsF F N) i).length = i := fun i => by
      induction i with
      | zero => intro _; rfl
      | succ i ih =>
        intro hi
        rw [kst, if_pos (hlv i (by omega)), addK, hnew i (by omega), if_neg (by simp), List.length_append, ih (by omega)]
        rfl
    refine ⟨hlen i hik, fun hi => ?_⟩
    rw [clsF_get h hF hi, refI_at (by omega) (hlv i hi), kst, if_pos (hlv i hi), addK, hnew i hi, if_neg (by simp), List.idxOf_append, if_neg (by simpa using hnew i hi), hlen i hik]
    simp
def rgI (n : Nat) : List Int := (List.range n).map fun (i : Nat) => (i : Int)
theorem rgI_len (n : Nat) : (rgI n).length = n := by simp [rgI]
theorem rgI_get {n i : Nat} (h : i < n) : (rgI n).getD i 0 = (i : Int) := by simp [rgI, List.getD, h]
theorem rgI_succ (n : Nat) : rgI (n + 1) = rgI n ++ [(n : Int)] := by simp [rgI, List.range_succ]
theorem OA.cls2 (h : OA L k N F st Q) {i : Nat} (hi : i < Q.length) : (clsF (oFin F Q) (oNx N (clsF F N) Q)).getD i 0 = (i : Int) :=
  (kst_own h.ok2 h.hF2 (fun i hi => h.alive hi) (fun i j hi hj hw => h.apart hi hj hw) i (by omega)).2 hi
theorem OA.cl2 (h : OA L k N F st Q) {i : Nat} (hi : i < Q.length) : cl (clsF (oFin F Q) (oNx N (clsF F N) Q)) (i : Int) = (i : Int) := by
  have := h.cls2 hi
  simpa [cl] using this
theorem OA.clR (h : OA L k N F st Q) {n : Nat} (hn : n ≤ Q.length) : (rgI n).map (cl (clsF (oFin F Q) (oNx N (clsF F N) Q))) = rgI n := by
  apply List.ext_getElem
  · simp
  · intro i h1 h2
    have hi : i < n := by rw [rgI_len] at h2; exact h2
    rw [List.getElem_map]
    simp only [rgI, List.getElem_map, List.getElem_range]
    exact h.cl2 (by omega)
theorem rgI_has {n m : Nat} : (rgI n).contains (m : Int) = decide (m < n) := by
  rw [Bool.eq_iff_iff]
  simp only [rgI, List.contains_eq_mem, List.mem_map, List.mem_range, decide_eq_true_eq]
  constructor
  · rintro ⟨a, ha, e⟩; omega
  · intro hm; exact ⟨m, hm, rfl⟩
theorem OA.row2 (h : OA L k N F st Q) {i : Nat} (hi : i < Q.length) : ∀ a, a ≤ L → oRow (oNx N (clsF F N) Q) (clsF (oFin F Q) (oNx N (clsF F N) Q)) (rgI (oQ N (clsF F N) st i).length) i a = rgI (metO N (clsF F N) st Q i a)
  | 0, _ => by rw [oRow, metO_0]
  | a + 1, ha => by
    rw [oRow, OA.row2 h hi a (by omega)]
    obtain ⟨x, hx, hx1, hc⟩ := h.met hi (a := a) (by omega)
    obtain ⟨u, hu⟩ := h.row hi (a := a + 1) ha
    have hml : metO N (clsF F N) st Q i (a + 1) ≤ Q.length := by
      have := congrArg List.length hu
      rw [List.length_append] at this
      unfold metO; omega
    rw [hx]
    generalize metO N (clsF F N) st Q i a = m at *
    generalize metO N (clsF F N) st Q i (a + 1) = m' at *
    unfold oAdd
    by_cases h0 : x < 0
    · rw [if_pos (dead_neg h0)]
      rcases hc with ⟨_, q⟩ | ⟨q, _⟩
      · rw [q]
      · omega
    · obtain ⟨y, rfl⟩ := Int.eq_ofNat_of_zero_le (Int.not_lt.1 h0)
      have hy : y < Q.length := by rcases hc with ⟨q1, q2⟩ | ⟨q1, q2⟩ <;> omega
      have hcl := h.cl2 hy
      have hd : dead (clsF (oFin F Q) (oNx N (clsF F N) Q)) ((y : Nat) : Int) = false := dead_iff.2 ⟨by omega, by rw [hcl]; omega⟩
      rw [hd, if_neg (by simp), hcl, h.clR (by rcases hc with ⟨q1, q2⟩ | ⟨q1, q2⟩ <;> omega), rgI_has]
      rcases hc with ⟨q1, q2⟩ | ⟨q1, q2⟩
      · rw [decide_eq_true (by omega), if_pos rfl, q2]
      · rw [decide_eq_false (by omega), if_neg (by simp), q2, rgI_succ, q1]
theorem OA.q2 (h : OA L k N F st Q) : ∀ i, i ≤ Q.length → oQ (oNx N (clsF F N) Q) (clsF (oFin F Q) (oNx N (clsF F N) Q)) 0 i = rgI (oQ N (clsF F N) st i).length
  | 0, _ => rfl
  | i + 1, hi => by
    have ih := OA.q2 h i (by omega)
    have hlt := h.lt (i := i) (by omega)
    rw [oQ, ih, rgI_len, if_pos hlt, oStp, rgI_get hlt, Int.toNat_natCast, (h.ok2.get (by omega)).1, h.row2 (by omega) L (Nat.le_refl _), h.metN (by omega)]
end
def idxP {α : Type} (p : α → Bool) : List α → Nat → Int
  | [], _ => -1
  | x :: l, k => if p x = true then (k : Int) else idxP p l (k + 1)
theorem idxP_any {α : Type} (p : α → Bool) : ∀ (l : List α) (k : Nat), decide (idxP p l k ≥ 0) = l.any p
  | [], k => by simp [idxP]
  | x :: l, k => by
    rw [idxP]
    cases h : p x
    · simp only [Bool.false_eq_true, if_false, idxP_any p l (k + 1), List.any_cons, h, Bool.false_or]
    · simp [h]
theorem drop_getD {α : Type} {l : List α} {i : Nat} (h : i < l.length) (d : α) : l.drop i = l.getD i d :: l.drop (i + 1) := by
  rw [List.drop_eq_getElem_cons h]; simp [List.getD, List.getElem?_eq_getElem h]
theorem getD_mem {α : Type} {l : List α} {i : Nat} (h : i < l.length) (d : α) : l.getD i d ∈ l := by
  rw [List.getD, List.getElem?_eq_getElem h]; exact List.getElem_mem _
set_option maxHeartbeats 4000000 in
theorem c_IdxI (g : Nat) (row : List D) (hg : FnOk Try.prog g) (p : Int → Bool) (f : Bool) (l : List Int) (hl : l.length ≤ 100000) (hp : ∀ x ∈ l, Contract Try.prog g [i64 x, .ref row 0] (bo (p x)) []) :
    Contract Try.prog 92 [.sl f (ints l), .fn (.func g) 0 [.ref row 0]] (i64 (idxP p l 0)) [] := by
  refine contract_of_awp (rs := [4]) Try.func92 rfl Try.ntmps92 (by simp) rfl fun E => ?_
  (repeat (first | refine awp_seq ?_ | refine awp_block ?_ | ((first | refine awp_skip ?_ | refine awp_exit ?_ | refine awp_reg ttok ?_ | (refine awp_draw ttok ?dr_calm ?_; (case dr_calm => decide +kernel)) | refine awp_condM ?_); simp (maxSteps := 4000000) only [↓reduceIte, Nat.reduceLT, Nat.reduceEqDiff, reduceCtorEq, Nat.reduceAdd, Nat.reduceMul, Int.reduceLE, Int.reduceLT, Int.reduceToNat, Nat.reduceLeDiff, Nat.reduceSub, Int.reduceEq, Nat.reduceBEq, List.replicate, List.set, evB, tyA]; (repeat (with_reducible refine And.intro ?_ ?_; exact sdX)); (with_reducible first | refine awp_id ?_ | refine id_call ?_ | refine id_and ?_ | refine id_ex ?_ | refine id_all ?_ | refine id_nat ?_ | refine id_le ?_))))
  refine awp_loop (X := Nat) (fun i => mkS 19 [(0, .sl f (ints l)), (1, .fn (.func g) 0 [.ref row 0]), (7, i64 l.length), (8, i64 i)] []) (fun i => i ≤ l.length ∧ idxP p (l.drop i) i = idxP p l 0) (fun i => l.length - i) 0 ⟨by omega, rfl⟩ (mkS_le rfl ?_ trivial) ?_
  · simp (maxSteps := 4000000) only [↓reduceIte, Nat.reduceLT, Nat.reduceEqDiff, reduceCtorEq, Nat.reduceAdd, Nat.reduceMul, Int.reduceLE, Int.reduceLT, Int.reduceToNat, Nat.reduceLeDiff, Nat.reduceSub, Int.reduceEq, Nat.reduceBEq, List.replicate, List.set, evB]
    try rfl
  · rintro i ⟨hi, hq⟩
    by_cases hlt : i < l.length
    · have d1 : decide ((i : Int) < (l.length : Int)) = true := by simpa using hlt
      have gi := ints_get hlt
      have hpx := hp _ (getD_mem hlt 0)
      rw [drop_getD hlt 0, idxP] at hq
      generalize l.getD i 0 = x at gi hq hpx
      have hwi : IntKind.i64.wrap ((i : Int) + 1) = ((i + 1 : Nat) : Int) := i64_in (by omega) (by omega)
      (repeat (first | refine awp_seq ?_ | refine awp_block ?_ | ((first | refine awp_skip ?_ | refine awp_exit ?_ | refine awp_reg ttok ?_ | (refine awp_draw ttok ?dr_calm ?_; (case dr_calm => decide +kernel)) | refine awp_condM ?_); simp (maxSteps := 4000000) only [↓reduceIte, Nat.reduceLT, Nat.reduceEqDiff, reduceCtorEq, Nat.reduceAdd, Nat.reduceMul, Int.reduceLE, Int.reduceLT, Int.reduceToNat, Nat.reduceLeDiff, Nat.reduceSub, Int.reduceEq, Nat.reduceBEq, List.replicate, List.set, evB, tyA, d1, gi]; (repeat (with_reducible refine And.intro ?_ ?_; exact sdX)); (with_reducible first | refine awp_id ?_ | refine id_call ?_ | refine id_and ?_ | refine id_ex ?_ | refine id_all ?_ | refine id_nat ?_ | refine id_le ?_))))
      refine callVC_scal hg hpx rfl ?_
      cases he : p x
      · rw [he, if_neg (by simp)] at hq
        simp (maxSteps := 4000000) only [↓reduceIte, Nat.reduceLT, Nat.reduceEqDiff, reduceCtorEq, Nat.reduceAdd, Nat.reduceMul, Int.reduceLE, Int.reduceLT, Int.reduceToNat, Nat.reduceLeDiff, Nat.reduceSub, Int.reduceEq, Nat.reduceBEq, List.replicate, List.set, evB, tyA, he]
        (repeat (with_reducible refine And.intro ?_ ?_; exact sdX))
        (repeat (first | refine awp_seq ?_ | refine awp_block ?_ | ((first | refine awp_skip ?_ | refine awp_exit ?_ | refine awp_reg ttok ?_ | (refine awp_draw ttok ?dr_calm ?_; (case dr_calm => decide +kernel)) | refine awp_condM ?_); simp (maxSteps := 4000000) only [↓reduceIte, Nat.reduceLT, Nat.reduceEqDiff, reduceCtorEq, Nat.reduceAdd, Nat.reduceMul, Int.reduceLE, Int.reduceLT, Int.reduceToNat, Nat.reduceLeDiff, Nat.reduceSub, Int.reduceEq, Nat.reduceBEq, List.replicate, List.set, evB, tyA, he, hwi]; (repeat (with_reducible refine And.intro ?_ ?_; exact sdX)); (with_reducible first | refine awp_id ?_ | refine id_call ?_ | refine id_and ?_ | refine id_ex ?_ | refine id_all ?_ | refine id_nat ?_ | refine id_le ?_))))
        refine ⟨i + 1, ⟨by omega, hq⟩, by omega, mkS_le rfl ?_ trivial⟩
        simp (maxSteps := 4000000) only [↓reduceIte, Nat.reduceLT, Nat.reduceEqDiff, reduceCtorEq, Nat.reduceAdd, Nat.reduceMul, Int.reduceLE, Int.reduceLT, Int.reduceToNat, Nat.reduceLeDiff, Nat.reduceSub, Int.reduceEq, Nat.reduceBEq, List.replicate, List.set, evB]
      · rw [he, if_pos rfl] at hq
        simp (maxSteps := 4000000) only [↓reduceIte, Nat.reduceLT, Nat.reduceEqDiff, reduceCtorEq, Nat.reduceAdd, Nat.reduceMul, Int.reduceLE, Int.reduceLT, Int.reduceToNat, Nat.reduceLeDiff, Nat.reduceSub, Int.reduceEq, Nat.reduceBEq, List.replicate, List.set, evB, tyA, he]
        (repeat (with_reducible refine And.intro ?_ ?_; exact sdX))
        (repeat (first | refine awp_seq ?_ | refine awp_block ?_ | ((first | refine awp_skip ?_ | refine awp_exit ?_ | refine awp_reg ttok ?_ | (refine awp_draw ttok ?dr_calm ?_; (case dr_calm => decide +kernel)) | refine awp_condM ?_); simp (maxSteps := 4000000) only [↓reduceIte, Nat.reduceLT, Nat.reduceEqDiff, reduceCtorEq, Nat.reduceAdd, Nat.reduceMul, Int.reduceLE, Int.reduceLT, Int.reduceToNat, Nat.reduceLeDiff, Nat.reduceSub, Int.reduceEq, Nat.reduceBEq, List.replicate, List.set, evB, tyA, he]; (repeat (with_reducible refine And.intro ?_ ?_; exact sdX)); (with_reducible first | refine awp_id ?_ | refine id_call ?_ | refine id_and ?_ | refine id_ex ?_ | refine id_all ?_ | refine id_nat ?_ | refine id_le ?_))))
        exact awp_ret (ends_plain (.inr rfl) rfl (by simp (maxSteps := 4000000) only [↓reduceIte, Nat.reduceLT, Nat.reduceEqDiff, reduceCtorEq, Nat.reduceAdd, Nat.reduceMul, Int.reduceLE, Int.reduceLT, Int.reduceToNat, Nat.reduceLeDiff, Nat.reduceSub, Int.reduceEq, Nat.reduceBEq, List.replicate, List.set, evB, hq]))
    · have d1 : decide ((i : Int) < (l.length : Int)) = false := by simpa using hlt
      rw [List.drop_of_length_le (by omega)] at hq
      have hm : idxP p l 0 = -1 := by rw [← hq]; rfl
      (repeat (first | refine awp_seq ?_ | refine awp_block ?_ | ((first | refine awp_skip ?_ | refine awp_exit ?_ | refine awp_reg ttok ?_ | (refine awp_draw ttok ?dr_calm ?_; (case dr_calm => decide +kernel)) | refine awp_condM ?_); simp (maxSteps := 4000000) only [↓reduceIte, Nat.reduceLT, Nat.reduceEqDiff, reduceCtorEq, Nat.reduceAdd, Nat.reduceMul, Int.reduceLE, Int.reduceLT, Int.reduceToNat, Nat.reduceLeDiff, Nat.reduceSub, Int.reduceEq, Nat.reduceBEq, List.replicate, List.set, evB, tyA, d1]; (repeat (with_reducible refine And.intro ?_ ?_; exact sdX)); (with_reducible first | refine awp_id ?_ | refine id_call ?_ | refine id_and ?_ | refine id_ex ?_ | refine id_all ?_ | refine id_nat ?_ | refine id_le ?_))))
      exact awp_ret (ends_plain (.inr rfl) rfl (by simp (maxSteps := 4000000) only [↓reduceIte, Nat.reduceLT, Nat.reduceEqDiff, reduceCtorEq, Nat.reduceAdd, Nat.reduceMul, Int.reduceLE, Int.reduceLT, Int.reduceToNat, Nat.reduceLeDiff, Nat.reduceSub, Int.reduceEq, Nat.reduceBEq, List.replicate, List.set, evB, hm]))
theorem c_CtI (g : Nat) (row : List D) (hg : FnOk Try.prog g) (p : Int → Bool) (f : Bool) (l : List Int) (hl : l.length ≤ 100000) (hp : ∀ x ∈ l, Contract Try.prog g [i64 x, .ref row 0] (bo (p x)) []) :
    Contract Try.prog 79 [.sl f (ints l), .fn (.func g) 0 [.ref row 0]] (bo (l.any p)) [] := by
  refine contract_of_awp (rs := [4]) Try.func79 rfl Try.ntmps79 (by simp) rfl fun E => ?_
  have ha := idxP_any p l 0
  (repeat (first | refine awp_seq ?_ | refine awp_block ?_ | ((first | refine awp_skip ?_ | refine awp_exit ?_ | refine awp_reg ttok ?_ | (refine awp_draw ttok ?dr_calm ?_; (case dr_calm => decide +kernel)) | refine awp_condM ?_); simp (maxSteps := 4000000) only [↓reduceIte, Nat.reduceLT, Nat.reduceEqDiff, reduceCtorEq, Nat.reduceAdd, Nat.reduceMul, Int.reduceLE, Int.reduceLT, Int.reduceToNat, Nat.reduceLeDiff, Nat.reduceSub, Int.reduceEq, Nat.reduceBEq, List.replicate, List.set, evB, tyA]; (repeat (with_reducible refine And.intro ?_ ?_; exact sdX)); (with_reducible first | refine awp_id ?_ | refine id_call ?_ | refine id_and ?_ | refine id_ex ?_ | refine id_all ?_ | refine id_nat ?_ | refine id_le ?_))))
  refine callVC_scal fnok92 (c_IdxI g row hg p f l hl hp) rfl ?_
  simp (maxSteps := 4000000) only [↓reduceIte, Nat.reduceLT, Nat.reduceEqDiff, reduceCtorEq, Nat.reduceAdd, Nat.reduceMul, Int.reduceLE, Int.reduceLT, Int.reduceToNat, Nat.reduceLeDiff, Nat.reduceSub, Int.reduceEq, Nat.reduceBEq, List.replicate, List.set, evB, tyA, ha]
  (repeat (with_reducible refine And.intro ?_ ?_; exact sdX))
  (repeat (first | refine awp_seq ?_ | refine awp_block ?_ | ((first | refine awp_skip ?_ | refine awp_exit ?_ | refine awp_reg ttok ?_ | (refine awp_draw ttok ?dr_calm ?_; (case dr_calm => decide +kernel)) | refine awp_condM ?_); simp (maxSteps := 4000000) only [↓reduceIte, Nat.reduceLT, Nat.reduceEqDiff, reduceCtorEq, Nat.reduceAdd, Nat.reduceMul, Int.reduceLE, Int.reduceLT, Int.reduceToNat, Nat.reduceLeDiff, Nat.reduceSub, Int.reduceEq, Nat.reduceBEq, List.replicate, List.set, evB, tyA, ha]; (repeat (with_reducible refine And.intro ?_ ?_; exact sdX)); (with_reducible first | refine awp_id ?_ | refine id_call ?_ | refine id_and ?_ | refine id_ex ?_ | refine id_all ?_ | refine id_nat ?_ | refine id_le ?_))))
  exact awp_ret (ends_plain (.inr rfl) rfl evX)
set_option maxHeartbeats 4000000 in
theorem c_IdxII (g : Nat) (row : List D) (hg : FnOk Try.prog g) (p : List Int → Bool) (f : Bool) (l : List (List Int)) (hl : l.length ≤ 100000) (hp : ∀ x ∈ l, Contract Try.prog g [.sl false (ints x), .ref row 0] (bo (p x)) []) :
    Contract Try.prog 64 [.sl f (iis l), .fn (.func g) 0 [.ref row 0]] (i64 (idxP p l 0)) [] := by
  refine contract_of_awp (rs := [4]) Try.func64 rfl Try.ntmps64 (by simp) rfl fun E => ?_
  (repeat (first | refine awp_seq ?_ | refine awp_block ?_ | ((first | refine awp_skip ?_ | refine awp_exit ?_ | refine awp_reg ttok ?_ | (refine awp_draw ttok ?dr_calm ?_; (case dr_calm => decide +kernel)) | refine awp_condM ?_); simp (maxSteps := 4000000) only [↓reduceIte, Nat.reduceLT, Nat.reduceEqDiff, reduceCtorEq, Nat.reduceAdd, Nat.reduceMul, Int.reduceLE, Int.reduceLT, Int.reduceToNat, Nat.reduceLeDiff, Nat.reduceSub, Int.reduceEq, Nat.reduceBEq, List.replicate, List.set, evB, tyA, iis_len]; (repeat (with_reducible refine And.intro ?_ ?_; exact sdX)); (with_reducible first | refine awp_id ?_ | refine id_call ?_ | refine id_and ?_ | refine id_ex ?_ | refine id_all ?_ | refine id_nat ?_ | refine id_le ?_))))
  refine awp_loop (X := Nat) (fun i => mkS 19 [(0, .sl f (iis l)), (1, .fn (.func g) 0 [.ref row 0]), (7, i64 l.length), (8, i64 i)] []) (fun i => i ≤ l.length ∧ idxP p (l.drop i) i = idxP p l 0) (fun i => l.length - i) 0 ⟨by omega, rfl⟩ (mkS_le rfl ?_ trivial) ?_
  · simp (maxSteps := 4000000) only [↓reduceIte, Nat.reduceLT, Nat.reduceEqDiff, reduceCtorEq, Nat.reduceAdd, Nat.reduceMul, Int.reduceLE, Int.reduceLT, Int.reduceToNat, Nat.reduceLeDiff, Nat.reduceSub, Int.reduceEq, Nat.reduceBEq, List.replicate, List.set, evB]
    try rfl
  · rintro i ⟨hi, hq⟩
    by_cases hlt : i < l.length
    · have d1 : decide ((i : Int) < (l.length : Int)) = true := by simpa using hlt
      have gi := iis_get hlt
      have hpx := hp _ (getD_mem hlt [])
      rw [drop_getD hlt [], idxP] at hq
      generalize l.getD i [] = x at gi hq hpx
      have hwi : IntKind.i64.wrap ((i : Int) + 1) = ((i + 1 : Nat) : Int) := i64_in (by omega) (by omega)
      (repeat (first | refine awp_seq ?_ | refine awp_block ?_ | ((first | refine awp_skip ?_ | refine awp_exit ?_ | refine awp_reg ttok ?_ | (refine awp_draw ttok ?dr_calm ?_; (case dr_calm => decide +kernel)) | refine awp_condM ?_); simp (maxSteps := 4000000) only [↓reduceIte, Nat.reduceLT, Nat.reduceEqDiff, reduceCtorEq, Nat.reduceAdd, Nat.reduceMul, Int.reduceLE, Int.reduceLT, Int.reduceToNat, Nat.reduceLeDiff, Nat.reduceSub, Int.reduceEq, Nat.reduceBEq, List.replicate, List.set, evB, tyA, d1, gi, iis_len]; (repeat (with_reducible refine And.intro ?_ ?_; exact sdX)); (with_reducible first | refine awp_id ?_ | refine id_call ?_ | refine id_and ?_ | refine id_ex ?_ | refine id_all ?_ | refine id_nat ?_ | refine id_le ?_))))
      refine callVC_scal hg hpx rfl ?_
      cases he : p x
      · rw [he, if_neg (by simp)] at hq
        simp (maxSteps := 4000000) only [↓reduceIte, Nat.reduceLT, Nat.reduceEqDiff, reduceCtorEq, Nat.reduceAdd, Nat.reduceMul, Int.reduceLE, Int.reduceLT, Int.reduceToNat, Nat.reduceLeDiff, Nat.reduceSub, Int.reduceEq, Nat.reduceBEq, List.replicate, List.set, evB, tyA, he]
        (repeat (with_reducible refine And.intro ?_ ?_; exact sdX))
        (repeat (first | refine awp_seq ?_ | refine awp_block ?_ | ((first | refine awp_skip ?_ | refine awp_exit ?_ | refine awp_reg ttok ?_ | (refine awp_draw ttok ?dr_calm ?_; (case dr_calm => decide +kernel)) | refine awp_condM ?_); simp (maxSteps := 4000000) only [↓reduceIte, Nat.reduceLT, Nat.reduceEqDiff, reduceCtorEq, Nat.reduceAdd, Nat.reduceMul, Int.reduceLE, Int.reduceLT, Int.reduceToNat, Nat.reduceLeDiff, Nat.reduceSub, Int.reduceEq, Nat.reduceBEq, List.replicate, List.set, evB, tyA, he, hwi]; (repeat (with_reducible refine And.intro ?_ ?_; exact sdX)); (with_reducible first | refine awp_id ?_ | refine id_call ?_ | refine id_and ?_ | refine id_ex ?_ | refine id_all ?_ | refine id_nat ?_ | refine id_le ?_))))
        refine ⟨i + 1, ⟨by omega, hq⟩, by omega, mkS_le rfl ?_ trivial⟩
        simp (maxSteps := 4000000) only [↓reduceIte, Nat.reduceLT, Nat.reduceEqDiff, reduceCtorEq, Nat.reduceAdd, Nat.reduceMul, Int.reduceLE, Int.reduceLT, Int.reduceToNat, Nat.reduceLeDiff, Nat.reduceSub, Int.reduceEq, Nat.reduceBEq, List.replicate, List.set, evB]
      · rw [he, if_pos rfl] at hq
        simp (maxSteps := 4000000) only [↓reduceIte, Nat.reduceLT, Nat.reduceEqDiff, reduceCtorEq, Nat.reduceAdd, Nat.reduceMul, Int.reduceLE, Int.reduceLT, Int.reduceToNat, Nat.reduceLeDiff, Nat.reduceSub, Int.reduceEq, Nat.reduceBEq, List.replicate, List.set, evB, tyA, he]
        (repeat (with_reducible refine And.intro ?_ ?_; exact sdX))
        (repeat (first | refine awp_seq ?_ | refine awp_block ?_ | ((first | refine awp_skip ?_ | refine awp_exit ?_ | refine awp_reg ttok ?_ | (refine awp_draw ttok ?dr_calm ?_; (case dr_calm => decide +kernel)) | refine awp_condM ?_); simp (maxSteps := 4000000) only [↓reduceIte, Nat.reduceLT, Nat.reduceEqDiff, reduceCtorEq, Nat.reduceAdd, Nat.reduceMul, Int.reduceLE, Int.reduceLT, Int.reduceToNat, Nat.reduceLeDiff, Nat.reduceSub, Int.reduceEq, Nat.reduceBEq, List.replicate, List.set, evB, tyA, he]; (repeat (with_reducible refine And.intro ?_ ?_; exact sdX)); (with_reducible first | refine awp_id ?_ | refine id_call ?_ | refine id_and ?_ | refine id_ex ?_ | refine id_all ?_ | refine id_nat ?_ | refine id_le ?_))))
        exact awp_ret (ends_plain (.inr rfl) rfl (by simp (maxSteps := 4000000) only [↓reduceIte, Nat.reduceLT, Nat.reduceEqDiff, reduceCtorEq, Nat.reduceAdd, Nat.reduceMul, Int.reduceLE, Int.reduceLT, Int.reduceToNat, Nat.reduceLeDiff, Nat.reduceSub, Int.reduceEq, Nat.reduceBEq, List.replicate, List.set, evB, hq]))
    · have d1 : decide ((i : Int) < (l.length : Int)) = false := by simpa using hlt
      rw [List.drop_of_length_le (by omega)] at hq
      have hm : idxP p l 0 = -1 := by rw [← hq]; rfl
      (repeat (first | refine awp_seq ?_ | refine awp_block ?_ | ((first | refine awp_skip ?_ | refine awp_exit ?_ | refine awp_reg ttok ?_ | (refine awp_draw ttok ?dr_calm ?_; (case dr_calm => decide +kernel)) | refine awp_condM ?_); simp (maxSteps := 4000000) only [↓reduceIte, Nat.reduceLT, Nat.reduceEqDiff, reduceCtorEq, Nat.reduceAdd, Nat.reduceMul, Int.reduceLE, Int.reduceLT, Int.reduceToNat, Nat.reduceLeDiff, Nat.reduceSub, Int.reduceEq, Nat.reduceBEq, List.replicate, List.set, evB, tyA, d1]; (repeat (with_reducible refine And.intro ?_ ?_; exact sdX)); (with_reducible first | refine awp_id ?_ | refine id_call ?_ | refine id_and ?_ | refine id_ex ?_ | refine id_all ?_ | refine id_nat ?_ | refine id_le ?_))))
      exact awp_ret (ends_plain (.inr rfl) rfl (by simp (maxSteps := 4000000) only [↓reduceIte, Nat.reduceLT, Nat.reduceEqDiff, reduceCtorEq, Nat.reduceAdd, Nat.reduceMul, Int.reduceLE, Int.reduceLT, Int.reduceToNat, Nat.reduceLeDiff, Nat.reduceSub, Int.reduceEq, Nat.reduceBEq, List.replicate, List.set, evB, hm]))
theorem c_CtII (g : Nat) (row : List D) (hg : FnOk Try.prog g) (p : List Int → Bool) (f : Bool) (l : List (List Int)) (hl : l.length ≤ 100000) (hp : ∀ x ∈ l, Contract Try.prog g [.sl false (ints x), .ref row 0] (bo (p x)) []) :
    Contract Try.prog 67 [.sl f (iis l), .fn (.func g) 0 [.ref row 0]] (bo (l.any p)) [] := by
  refine contract_of_awp (rs := [4]) Try.func67 rfl Try.ntmps67 (by simp) rfl fun E => ?_
  have ha := idxP_any p l 0
  (repeat (first | refine awp_seq ?_ | refine awp_block ?_ | ((first | refine awp_skip ?_ | refine awp_exit ?_ | refine awp_reg ttok ?_ | (refine awp_draw ttok ?dr_calm ?_; (case dr_calm => decide +kernel)) | refine awp_condM ?_); simp (maxSteps := 4000000) only [↓reduceIte, Nat.reduceLT, Nat.reduceEqDiff, reduceCtorEq, Nat.reduceAdd, Nat.reduceMul, Int.reduceLE, Int.reduceLT, Int.reduceToNat, Nat.reduceLeDiff, Nat.reduceSub, Int.reduceEq, Nat.reduceBEq, List.replicate, List.set, evB, tyA]; (repeat (with_reducible refine And.intro ?_ ?_; exact sdX)); (with_reducible first | refine awp_id ?_ | refine id_call ?_ | refine id_and ?_ | refine id_ex ?_ | refine id_all ?_ | refine id_nat ?_ | refine id_le ?_))))
  refine callVC_scal fnok64 (c_IdxII g row hg p f l hl hp) rfl ?_
  simp (maxSteps := 4000000) only [↓reduceIte, Nat.reduceLT, Nat.reduceEqDiff, reduceCtorEq, Nat.reduceAdd, Nat.reduceMul, Int.reduceLE, Int.reduceLT, Int.reduceToNat, Nat.reduceLeDiff, Nat.reduceSub, Int.reduceEq, Nat.reduceBEq, List.replicate, List.set, evB, tyA, ha]
  (repeat (with_reducible refine And.intro ?_ ?_; exact sdX))
  (repeat (first | refine awp_seq ?_ | refine awp_block ?_ | ((first | refine awp_skip ?_ | refine awp_exit ?_ | refine awp_reg ttok ?_ | (refine awp_draw ttok ?dr_calm ?_; (case dr_calm => decide +kernel)) | refine awp_condM ?_); simp (maxSteps := 4000000) only [↓reduceIte, Nat.reduceLT, Nat.reduceEqDiff, reduceCtorEq, Nat.reduceAdd, Nat.reduceMul, Int.reduceLE, Int.reduceLT, Int.reduceToNat, Nat.reduceLeDiff, Nat.reduceSub, Int.reduceEq, Nat.reduceBEq, List.replicate, List.set, evB, tyA, ha]; (repeat (with_reducible refine And.intro ?_ ?_; exact sdX)); (with_reducible first | refine awp_id ?_ | refine id_call ?_ | refine id_and ?_ | refine id_ex ?_ | refine id_all ?_ | refine id_nat ?_ | refine id_le ?_))))
  exact awp_ret (ends_plain (.inr rfl) rfl evX)
end Go.Proofs.Ytcpipfodedfpkaa
