import Derived.Test.YtcpipfodedfpkaaMay
import Derived.Test.YtcpipfodedfpkaaDr
import Derived.Test.YtcpipfodedfpkaaOl
import Derived.Test.YtcpipfodedfpkaaTy
set_option linter.unusedSimpArgs false
set_option linter.unusedVariables false
namespace Go.Proofs.Ytcpipfodedfpkaa
open Go.Ab
def noDfa : D := .agg [i64 0, i64 0, .sl true [], .sl true []]
def ofR (L st : Nat) (F : List Bool) (N : List (List Int)) : D := if 0 ≤ (clsF F N).getD st 0 then .tup [dfaD L 0 (oFin F (oAll N (clsF F N) st)) (oNx N (clsF F N) (oAll N (clsF F N) st)), i64 0] else .tup [noDfa, i64 13]
theorem c_MOfR {L k : Nat} {N : List (List Int)} (h : NOk L k N) (st : Nat) (hst : st < k) (F : List Bool) (hF : F.length = k) (hL : L ≤ 100000) (hk : 1 ≤ k ∧ k ≤ 2000) : Contract Try.prog 43 [dfaD L st F N] (ofR L st F N) [] := by
  unfold ofR
  split
  · rename_i h0; exact c_MOf h st hst F hF hL hk h0
  · rename_i h0; exact c_MOfNo h st hst F hF hL hk (by omega)
theorem ofR_says {L k : Nat} {N : List (List Int)} (h : NOk L k N) {s : Nat} (hs : s < k) (F : List Bool) (hF : F.length = k) (hk : k ≤ 2000) :
    ((liveL F N).getD s false = true ∧ ∃ (j : Nat) (H : List Bool) (Y : List (List Int)), 1 ≤ j ∧ j ≤ k ∧ NOk L j Y ∧ H.length = j ∧ ofR L s F N = .tup [dfaD L 0 H Y, i64 0] ∧ ∀ w, endsD H Y ((0 : Nat) : Int) w = endsD F N s w) ∨
    ((liveL F N).getD s false = false ∧ ofR L s F N = .tup [noDfa, i64 13] ∧ ∀ w, endsD F N s w = false) := by
  unfold ofR
  have hlv := clsF_live h hF hs
  by_cases h0 : 0 ≤ (clsF F N).getD s 0
  · left
    refine ⟨hlv.2 h0, ?_⟩
    rw [if_pos h0]
    have hO := OA.mk (Q := oAll N (clsF F N) s) h hF hs h0 rfl
    generalize oAll N (clsF F N) s = R at *
    obtain ⟨r0, r1⟩ := hO.q0
    have hR := hO.lenQ
    exact ⟨R.length, oFin F R, oNx N (clsF F N) R, r0, hR, hO.ok2, hO.hF2, rfl, fun w => hO.lang w 0 s r0 r1⟩
  · right
    have hd : (liveL F N).getD s false = false := by
      cases hx : (liveL F N).getD s false
      · rfl
      · exact absurd (hlv.1 hx) h0
    exact ⟨hd, by rw [if_neg h0], fun w => dead_word h hF hs hd w⟩
theorem idx_same : ∀ {a b : List Int} {x y : Int}, a.length = b.length → (∀ j, j < a.length → (a.getD j 0 = x ↔ b.getD j 0 = y)) → a.contains x = b.contains y ∧ a.idxOf x = b.idxOf y
  | [], [], x, y, _, _ => by simp
  | [], _ :: _, _, _, h, _ => by simp at h
  | _ :: _, [], _, _, h, _ => by simp at h
  | u :: a, v :: b, x, y, h, hj => by
    have h0 : u = x ↔ v = y := by have := hj 0 (by simp); simpa using this
    obtain ⟨h1, h2⟩ := idx_same (a := a) (b := b) (x := x) (y := y) (by simpa using h) fun j hl => by have := hj (j + 1) (by simpa using hl); simpa using this
    by_cases e : u = x
    · have e2 := h0.1 e
      subst e e2
      simp
    · have e2 : v ≠ y := fun q => e (h0.2 q)
      constructor
      · rw [List.contains_cons, List.contains_cons, h1, beq_eq_false_iff_ne.2 (Ne.symm e), beq_eq_false_iff_ne.2 (Ne.symm e2)]
      · rw [List.idxOf_cons, List.idxOf_cons, h2, beq_eq_false_iff_ne.2 e, beq_eq_false_iff_ne.2 e2]
section
variable {L k1 k2 : Nat} {N1 N2 : List (List Int)} {F1 F2 : List Bool}
def SameL (F1 : List Bool) (N1 : List (List Int)) (F2 : List Bool) (N2 : List (List Int)) (s t : Int) : Prop := ∀ w, endsD F1 N1 s w = endsD F2 N2 t w
structure Two (L k1 k2 : Nat) (F1 : List Bool) (N1 : List (List Int)) (F2 : List Bool) (N2 : List (List Int)) : Prop where
  h1 : NOk L k1 N1
  h2 : NOk L k2 N2
  f1 : F1.length = k1
  f2 : F2.length = k2
theorem dead_ends {k : Nat} {N : List (List Int)} {F : List Bool} (h : NOk L k N) (hF : F.length = k) {t : Int} (ht : t < (k : Int)) : dead (clsF F N) t = false ↔ ∃ w, endsD F N t w = true := by
  rw [dead_iff]
  constructor
  · rintro ⟨h0, h1⟩
    obtain ⟨s, rfl⟩ := Int.eq_ofNat_of_zero_le h0
    have hs : s < k := by omega
    exact (live_word h hF hs).1 ((clsF_live h hF hs).2 (by simpa [cl] using h1))
  · rintro ⟨w, hw⟩
    have h0 : 0 ≤ t := by
      rcases Int.lt_or_le t 0 with q | q
      · rw [ends_neg q] at hw; cases hw
      · exact q
    obtain ⟨s, rfl⟩ := Int.eq_ofNat_of_zero_le h0
    have hs : s < k := by omega
    refine ⟨h0, ?_⟩
    have := (clsF_live h hF hs).1 ((live_word h hF hs).2 ⟨w, hw⟩)
    simpa [cl] using this
theorem cl_same {k : Nat} {N : List (List Int)} {F : List Bool} (h : NOk L k N) (hF : F.length = k) {s t : Nat} (hs : s < k) (ht : t < k) (ls : (liveL F N).getD s false = true) (lt : (liveL F N).getD t false = true) : cl (clsF F N) s = cl (clsF F N) t ↔ ∀ w, endsD F N s w = endsD F N t w := by
  have e : ∀ x : Nat, cl (clsF F N) (x : Int) = (clsF F N).getD x 0 := fun x => by simp [cl]
  rw [e, e]
  constructor
  · exact fun q w => lang_of_cls h hF w s t hs ht ls lt q
  · exact fun q => cls_of_lang h hF _ s t hs ht ls lt q
def Side (k1 k2 : Nat) (F1 : List Bool) (N1 : List (List Int)) (F2 : List Bool) (N2 : List (List Int)) (q1 q2 : List Int) : Prop :=
  q1.length = q2.length ∧ ∀ j, j < q1.length → ∃ a b : Nat, q1.getD j 0 = (a : Int) ∧ q2.getD j 0 = (b : Int) ∧ a < k1 ∧ b < k2 ∧ (liveL F1 N1).getD a false = true ∧ (liveL F2 N2).getD b false = true ∧ SameL F1 N1 F2 N2 a b
theorem live_of {k : Nat} {N : List (List Int)} {F : List Bool} (h : NOk L k N) (hF : F.length = k) {t : Int} (ht : t < (k : Int)) (hd : dead (clsF F N) t = false) : ∃ s : Nat, t = (s : Int) ∧ s < k ∧ (liveL F N).getD s false = true := by
  obtain ⟨h0, h1⟩ := dead_iff.1 hd
  obtain ⟨s, rfl⟩ := Int.eq_ofNat_of_zero_le h0
  have hs : s < k := by omega
  exact ⟨s, rfl, hs, (clsF_live h hF hs).2 (by simpa [cl] using h1)⟩
theorem dead_two (T : Two L k1 k2 F1 N1 F2 N2) {t1 t2 : Int} (b1 : t1 < (k1 : Int)) (b2 : t2 < (k2 : Int)) (hs : SameL F1 N1 F2 N2 t1 t2) : dead (clsF F1 N1) t1 = dead (clsF F2 N2) t2 := by
  have e1 := dead_ends T.h1 T.f1 b1
  have e2 := dead_ends T.h2 T.f2 b2
  have e3 : (∃ w, endsD F1 N1 t1 w = true) ↔ ∃ w, endsD F2 N2 t2 w = true := by
    constructor
    · rintro ⟨w, hw⟩; exact ⟨w, by rw [← hs]; exact hw⟩
    · rintro ⟨w, hw⟩; exact ⟨w, by rw [hs]; exact hw⟩
  cases x : dead (clsF F1 N1) t1 <;> cases y : dead (clsF F2 N2) t2
  · rfl
  · have := e2.2 (e3.1 (e1.1 x)); rw [y] at this; cases this
  · have := e1.2 (e3.2 (e2.1 y)); rw [x] at this; cases this
  · rfl
theorem Side.idx (T : Two L k1 k2 F1 N1 F2 N2) {q1 q2 : List Int} (hq : Side k1 k2 F1 N1 F2 N2 q1 q2) {t1 t2 : Int} (b1 : t1 < (k1 : Int)) (b2 : t2 < (k2 : Int)) (hs : SameL F1 N1 F2 N2 t1 t2) (hd : dead (clsF F1 N1) t1 = false) :
    (q1.map (cl (clsF F1 N1))).contains (cl (clsF F1 N1) t1) = (q2.map (cl (clsF F2 N2))).contains (cl (clsF F2 N2) t2) ∧ (q1.map (cl (clsF F1 N1))).idxOf (cl (clsF F1 N1) t1) = (q2.map (cl (clsF F2 N2))).idxOf (cl (clsF F2 N2) t2) := by
  have hd2 := hd
  rw [dead_two T b1 b2 hs] at hd2
  obtain ⟨s1, rfl, g1, l1⟩ := live_of T.h1 T.f1 b1 hd
  obtain ⟨s2, rfl, g2, l2⟩ := live_of T.h2 T.f2 b2 hd2
  refine idx_same (by simpa using hq.1) fun j hj => ?_
  rw [List.length_map] at hj
  obtain ⟨a, b, e1, e2, ha, hb, la, lb, hab⟩ := hq.2 j hj
  rw [getD_mapI _ _ hj, getD_mapI _ _ (by rw [← hq.1]; exact hj), e1, e2, cl_same T.h1 T.f1 ha g1 la l1, cl_same T.h2 T.f2 hb g2 lb l2]
  constructor
  · exact fun h w => by rw [← hab, h, hs]
  · exact fun h w => by rw [hab, h, hs]
theorem Side.add (T : Two L k1 k2 F1 N1 F2 N2) {q1 q2 : List Int} (hq : Side k1 k2 F1 N1 F2 N2 q1 q2) {t1 t2 : Int} (b1 : t1 < (k1 : Int)) (b2 : t2 < (k2 : Int)) (hs : SameL F1 N1 F2 N2 t1 t2) : Side k1 k2 F1 N1 F2 N2 (oAdd (clsF F1 N1) q1 t1) (oAdd (clsF F2 N2) q2 t2) := by
  have hdd := dead_two T b1 b2 hs
  unfold oAdd
  cases hd : dead (clsF F1 N1) t1
  · have hi := (hq.idx T b1 b2 hs hd).1
    rw [hd] at hdd
    rw [← hdd, ← hi]
    simp only [Bool.false_eq_true, if_false]
    split
    · exact hq
    · obtain ⟨s1, rfl, g1, l1⟩ := live_of T.h1 T.f1 b1 hd
      obtain ⟨s2, rfl, g2, l2⟩ := live_of T.h2 T.f2 b2 hdd.symm
      refine ⟨by simp [hq.1], fun j hj => ?_⟩
      rcases Nat.lt_or_ge j q1.length with g | g
      · obtain ⟨a, b, e1, e2, r⟩ := hq.2 j g
        exact ⟨a, b, by rw [getD_app_lt g]; exact e1, by rw [getD_app_lt (by rw [← hq.1]; exact g)]; exact e2, r⟩
      · have hj' : j = q1.length := by simp at hj; omega
        refine ⟨s1, s2, by rw [hj', getD_app_at], by rw [hj', hq.1, getD_app_at], g1, g2, l1, l2, hs⟩
  · rw [hd] at hdd
    rw [← hdd, if_pos rfl, if_pos rfl]
    exact hq
theorem cell_same (T : Two L k1 k2 F1 N1 F2 N2) {a b : Nat} (ha : a < k1) (hb : b < k2) (hs : SameL F1 N1 F2 N2 a b) {x : Nat} (hx : x < L) : SameL F1 N1 F2 N2 ((N1.getD a []).getD x 0) ((N2.getD b []).getD x 0) := fun w => by
  have e1 := toD_good T.h1 ha hx
  have e2 := toD_good T.h2 hb hx
  rw [← e1, ← e2, ← ends_cons, ← ends_cons]
  exact hs _
theorem Side.row (T : Two L k1 k2 F1 N1 F2 N2) {a b : Nat} (ha : a < k1) (hb : b < k2) (hs : SameL F1 N1 F2 N2 a b) {q1 q2 : List Int} (hq : Side k1 k2 F1 N1 F2 N2 q1 q2) : ∀ x, x ≤ L → Side k1 k2 F1 N1 F2 N2 (oRow N1 (clsF F1 N1) q1 a x) (oRow N2 (clsF F2 N2) q2 b x)
  | 0, _ => hq
  | x + 1, hx => by
    have ih := Side.row T ha hb hs hq x (by omega)
    exact ih.add T (T.h1.at ha (by omega)).2 (T.h2.at hb (by omega)).2 (cell_same T ha hb hs (by omega))
theorem Side.q (T : Two L k1 k2 F1 N1 F2 N2) {a b : Nat} (ha : a < k1) (hb : b < k2) (la : (liveL F1 N1).getD a false = true) (lb : (liveL F2 N2).getD b false = true) (hs : SameL F1 N1 F2 N2 a b) : ∀ i, Side k1 k2 F1 N1 F2 N2 (oQ N1 (clsF F1 N1) a i) (oQ N2 (clsF F2 N2) b i)
  | 0 => ⟨rfl, fun j hj => by
    have : j = 0 := by simp [oQ] at hj; omega
    subst this
    exact ⟨a, b, rfl, rfl, ha, hb, la, lb, hs⟩⟩
  | i + 1 => by
    have ih := Side.q T ha hb la lb hs i
    rw [oQ, oQ, ← ih.1]
    split
    · rename_i hi
      obtain ⟨u, v, e1, e2, hu, hv, lu, lv, huv⟩ := ih.2 i hi
      unfold oStp
      rw [e1, e2, Int.toNat_natCast, Int.toNat_natCast, (T.h1.get hu).1, (T.h2.get hv).1]
      exact Side.row T hu hv huv ih L (Nat.le_refl _)
    · exact ih
theorem oAll_at {k : Nat} {N : List (List Int)} {F : List Bool} (h : NOk L k N) (hF : F.length = k) {s : Nat} (hs : s < k) (h0 : 0 ≤ (clsF F N).getD s 0) {K : Nat} (hK : k ≤ K) : oAll N (clsF F N) s = oQ N (clsF F N) s K := by
  have hO := OA.mk (Q := oAll N (clsF F N) s) h hF hs h0 rfl
  have hb := hO.bd (hO.oi k)
  have := oQ_stop (N := N) (c := clsF F N) s (i := k) (by omega) (K - k)
  rw [show k + (K - k) = K by omega] at this
  rw [this, oAll, h.len]
theorem ofR_uniq (T : Two L k1 k2 F1 N1 F2 N2) {a b : Nat} (ha : a < k1) (hb : b < k2) (hs : SameL F1 N1 F2 N2 a b) : ofR L a F1 N1 = ofR L b F2 N2 := by
  have c1 := clsF_live T.h1 T.f1 ha
  have c2 := clsF_live T.h2 T.f2 hb
  have lw : (liveL F1 N1).getD a false = true ↔ (liveL F2 N2).getD b false = true := by
    rw [live_word T.h1 T.f1 ha, live_word T.h2 T.f2 hb]
    constructor
    · rintro ⟨w, hw⟩; exact ⟨w, by rw [← hs]; exact hw⟩
    · rintro ⟨w, hw⟩; exact ⟨w, by rw [hs]; exact hw⟩
  unfold ofR
  by_cases h0 : 0 ≤ (clsF F1 N1).getD a 0
  · have la := c1.2 h0
    have lb := lw.1 la
    have h0' := c2.1 lb
    rw [if_pos h0, if_pos h0']
    have e1 := oAll_at T.h1 T.f1 ha h0 (K := k1 + k2) (by omega)
    have e2 := oAll_at T.h2 T.f2 hb h0' (K := k1 + k2) (by omega)
    have hq := Side.q T ha hb la lb hs (k1 + k2)
    rw [← e1, ← e2] at hq
    generalize oAll N1 (clsF F1 N1) a = Q1 at *
    generalize oAll N2 (clsF F2 N2) b = Q2 at *
    have f1 : oFin F1 Q1 = oFin F2 Q2 := by
      apply List.ext_getElem
      · simp [oFin, hq.1]
      · intro j g1 g2
        have hj : j < Q1.length := by simpa [oFin] using g1
        obtain ⟨u, v, q1, q2, hu, hv, _, _, huv⟩ := hq.2 j hj
        have x1 : Q1[j] = (u : Int) := by rw [← q1]; simp [List.getD, List.getElem?_eq_getElem hj]
        have x2 : Q2[j]'(by rw [← hq.1]; exact hj) = (v : Int) := by rw [← q2]; simp [List.getD, List.getElem?_eq_getElem (show j < Q2.length by rw [← hq.1]; exact hj)]
        simp only [oFin, List.getElem_map, x1, x2, Int.toNat_natCast]
        have := huv []
        simpa [endsD, runD] using this
    have f2 : oNx N1 (clsF F1 N1) Q1 = oNx N2 (clsF F2 N2) Q2 := by
      apply List.ext_getElem
      · simp [oNx, hq.1]
      · intro j g1 g2
        have hj : j < Q1.length := by simpa [oNx] using g1
        obtain ⟨u, v, q1, q2, hu, hv, _, _, huv⟩ := hq.2 j hj
        have x1 : Q1[j] = (u : Int) := by rw [← q1]; simp [List.getD, List.getElem?_eq_getElem hj]
        have x2 : Q2[j]'(by rw [← hq.1]; exact hj) = (v : Int) := by rw [← q2]; simp [List.getD, List.getElem?_eq_getElem (show j < Q2.length by rw [← hq.1]; exact hj)]
        simp only [oNx, List.getElem_map, x1, x2, Int.toNat_natCast]
        have r1 := (T.h1.get hu).1
        have r2 := (T.h2.get hv).1
        have key : ∀ x, x < L → oNum (clsF F1 N1) Q1 ((N1.getD u []).getD x 0) = oNum (clsF F2 N2) Q2 ((N2.getD v []).getD x 0) := fun x hx => by
          have b1 := (T.h1.at hu hx).2
          have b2 := (T.h2.at hv hx).2
          have hc := cell_same T hu hv huv hx
          have hdd := dead_two T b1 b2 hc
          unfold oNum
          cases hd : dead (clsF F1 N1) ((N1.getD u []).getD x 0)
          · have hi := (hq.idx T b1 b2 hc hd).2
            rw [hd] at hdd
            rw [← hdd, if_neg (by simp), if_neg (by simp), hi]
          · rw [hd] at hdd
            rw [← hdd, if_pos rfl, if_pos rfl]
        generalize N1.getD u [] = w1 at *
        generalize N2.getD v [] = w2 at *
        apply List.ext_getElem
        · simp [r1, r2]
        · intro x y1 y2
          have hx1 : x < w1.length := by simpa using y1
          have hx2 : x < w2.length := by simpa using y2
          have := key x (by omega)
          simp only [List.getElem_map]
          simpa [List.getD, List.getElem?_eq_getElem hx1, List.getElem?_eq_getElem hx2] using this
    rw [f1, f2]
  · rw [if_neg h0, if_neg fun q => h0 (c1.1 (lw.2 (c2.2 q)))]
end
def mvs (l : List (Int × Int)) : List (List D) := l.map fun x => [i64 x.1, i64 x.2]
theorem mvs_len (l : List (Int × Int)) : (mvs l).length = l.length := by simp [mvs]
theorem mvs_row (l : List (Int × Int)) : (∀ row ∈ mvs l, row.length = 2) = True := by
  simp only [mvs, List.mem_map, eq_iff_iff, iff_true]
  rintro row ⟨x, _, rfl⟩; rfl
theorem mvs_get {l : List (Int × Int)} {i : Nat} (h : i < l.length) : (mvs l).getD i [] = [i64 (l.getD i (0, 0)).1, i64 (l.getD i (0, 0)).2] := by
  simp [mvs, List.getD, List.getElem?_eq_getElem h]
theorem mvs_take (l : List (Int × Int)) (k : Nat) : (mvs l).take k = mvs (l.take k) := by simp [mvs]
theorem mvs_snoc (l : List (Int × Int)) (a b : Int) : mvs l ++ [[i64 a, i64 b]] = mvs (l ++ [(a, b)]) := by simp [mvs]
def mmv (M : List (List (Int × Int))) : List (List D) := M.map fun r => [.sl false (mvs r)]
theorem mmv_len (M : List (List (Int × Int))) : (mmv M).length = M.length := by simp [mmv]
theorem mmv_get {M : List (List (Int × Int))} {i : Nat} (h : i < M.length) : (mmv M).getD i [] = [.sl false (mvs (M.getD i []))] := by
  simp [mmv, List.getD, List.getElem?_eq_getElem h]
theorem mmv_take (M : List (List (Int × Int))) (k : Nat) : (mmv M).take k = mmv (M.take k) := by simp [mmv]
theorem mmv_row (M : List (List (Int × Int))) : (∀ row ∈ mmv M, row.length = 1) = True := by simp [mmv]
def nfaD (L s : Nat) (F : List Bool) (M : List (List (Int × Int))) : D := .agg [i64 L, i64 s, .sl false (bos F), .sl false (mmv M)]
def labN (z : Int) : Nat := lowB 3 z
theorem labN_le (z : Int) : labN z ≤ 3 := lowB_le 3 z (by decide)
def mvL (L : Nat) (x : Int × Int × Int) : Int := ((lowB 255 x.2.2 % (L + 1) : Nat) : Int) - 1
def addM (M : List (List (Int × Int))) (f : Nat) (a t : Int) : List (List (Int × Int)) := M.set f (M.getD f [] ++ [(a, t)])
def mvN (L k : Nat) (l : List (Int × Int × Int)) : Nat → List (List (Int × Int))
  | 0 => List.replicate k []
  | i + 1 => addM (mvN L k l i) (mvF k (l.getD i (0, 0, 0))) (mvL L (l.getD i (0, 0, 0))) (mvT k (l.getD i (0, 0, 0)))
def movN (L k : Nat) (l : List (Int × Int × Int)) : List (List (Int × Int)) := mvN L k l (min l.length 20)
theorem addM_get {M : List (List (Int × Int))} {f : Nat} (h : f < M.length) (a t : Int) (r : Nat) : (addM M f a t).getD r [] = if r = f then M.getD f [] ++ [(a, t)] else M.getD r [] := by
  unfold addM
  by_cases e : r = f
  · subst e
    rw [if_pos rfl, List.getD_eq_getElem?_getD, List.getElem?_set_self h]
    rfl
  · rw [if_neg e, List.getD_eq_getElem?_getD, List.getElem?_set_ne (Ne.symm e)]
    rfl
structure MOk (L k : Nat) (M : List (List (Int × Int))) : Prop where
  len : M.length = k
  row : ∀ r ∈ M, ∀ x ∈ r, -1 ≤ x.1 ∧ x.1 < (L : Int) ∧ 0 ≤ x.2 ∧ x.2 < (k : Int)
theorem MOk.get {L k : Nat} {M : List (List (Int × Int))} (h : MOk L k M) (s : Nat) : ∀ x ∈ M.getD s [], -1 ≤ x.1 ∧ x.1 < (L : Int) ∧ 0 ≤ x.2 ∧ x.2 < (k : Int) := by
  intro x hx
  rcases Nat.lt_or_ge s M.length with q | q
  · have e : M.getD s [] = M[s] := by simp [List.getD, List.getElem?_eq_getElem q]
    rw [e] at hx
    exact h.row _ (List.getElem_mem _) x hx
  · simp [List.getD, List.getElem?_eq_none q] at hx
theorem mvN_ok {L k : Nat} (hk : 1 ≤ k) (l : List (Int × Int × Int)) : ∀ i, MOk L k (mvN L k l i)
  | 0 => ⟨by simp [mvN], fun r hr => by rw [List.eq_of_mem_replicate hr]; simp⟩
  | i + 1 => by
    have ih := mvN_ok (L := L) hk l i
    refine ⟨by simp [mvN, addM, ih.len], fun r hr x hx => ?_⟩
    rcases List.mem_or_eq_of_mem_set hr with q | q
    · exact ih.row r q x hx
    · rw [q] at hx
      rcases List.mem_append.1 hx with q2 | q2
      · exact ih.get _ x q2
      · rw [List.mem_singleton.1 q2]
        have h1 : mvT k (l.getD i (0, 0, 0)) < k := Nat.mod_lt _ hk
        have h2 : lowB 255 (l.getD i (0, 0, 0)).2.2 % (L + 1) < L + 1 := Nat.mod_lt _ (by omega)
        simp only [mvL]
        omega
theorem movN_ok {L k : Nat} (hk : 1 ≤ k) (l : List (Int × Int × Int)) : MOk L k (movN L k l) := mvN_ok hk l _
theorem mvN_rl {L k : Nat} (l : List (Int × Int × Int)) : ∀ i s, ((mvN L k l i).getD s []).length ≤ i
  | 0, s => by
    rcases Nat.lt_or_ge s k with h | h
    · simp [mvN, List.getD, h]
    · simp [mvN, List.getD, List.getElem?_eq_none (show (List.replicate k ([] : List (Int × Int))).length ≤ s by simpa using h)]
  | i + 1, s => by
    have ih := mvN_rl (L := L) (k := k) l i
    simp only [mvN, addM]
    generalize mvF k (l.getD i (0, 0, 0)) = f
    by_cases hs : s = f
    · subst hs
      rcases Nat.lt_or_ge s (mvN L k l i).length with h | h
      · have : ((mvN L k l i).set s ((mvN L k l i).getD s [] ++ [(mvL L (l.getD i (0, 0, 0)), (mvT k (l.getD i (0, 0, 0)) : Int))])).getD s [] = (mvN L k l i).getD s [] ++ [(mvL L (l.getD i (0, 0, 0)), (mvT k (l.getD i (0, 0, 0)) : Int))] := by
          simp [List.getD, h]
        rw [this, List.length_append]
        exact Nat.succ_le_succ (ih s)
      · rw [List.set_eq_of_length_le h]
        exact Nat.le_succ_of_le (ih s)
    · have : ((mvN L k l i).set f ((mvN L k l i).getD f [] ++ [(mvL L (l.getD i (0, 0, 0)), (mvT k (l.getD i (0, 0, 0)) : Int))])).getD s [] = (mvN L k l i).getD s [] := by
        simp [List.getD, List.getElem?_set_ne (Ne.symm hs)]
      rw [this]
      have := ih s
      omega
def ownRowsV (n : Nat) (g : Nat → Nat) : List (List D) := (List.range n).map fun r => [D.own (r + 90000) 0 (g r)]
theorem ownRowsV_len (n : Nat) (g : Nat → Nat) : (ownRowsV n g).length = n := by simp [ownRowsV]
theorem ownRowsV_get {n f : Nat} {g : Nat → Nat} (h : f < n) : (ownRowsV n g).getD f [] = [D.own (f + 90000) 0 (g f)] := by simp [ownRowsV, List.getD, h]
theorem ownRowsV_kill {n k : Nat} {g : Nat → Nat} (h : decide (k < 90000) = true) : (ownRowsV n g).map (D.killL k) = ownRowsV n g := by
  have := of_decide_eq_true h
  simp only [ownRowsV, List.map_map]
  apply List.map_congr_left
  intro r hr
  simp only [Function.comp, D.killL, D.kill]
  rw [if_neg (by omega)]
theorem ownRowsV_killF {n f : Nat} {g : Nat → Nat} (h : f < n) : ((ownRowsV n g).map (D.killL (f + 90000))).getD f [] = [D.junk] := by
  simp [ownRowsV, List.getD, h, D.killL, D.kill]
theorem ownRowsV_setK {n f : Nat} {g : Nat → Nat} (m : Nat) (h : f < n) : ((ownRowsV n g).map (D.killL (f + 90000))).set f [D.own (f + 90000) 0 m] = ownRowsV n fun r => if r = f then m else g r := by
  apply List.ext_getElem
  · simp [ownRowsV]
  · intro i h1 h2
    simp only [ownRowsV, List.getElem_set, List.getElem_map, List.getElem_range]
    by_cases e : f = i
    · subst e; simp
    · rw [if_neg e, if_neg (Ne.symm e)]
      simp only [D.killL, D.kill]
      rw [if_neg (by omega)]
theorem purLL_ownV {h : Nat → Option AObj} {len : Nat → Nat} {g : Nat → AObj} : ∀ (l : List Nat), (∀ r ∈ l, h (r + 90000) = some (g r) ∧ (g r).flat = true ∧ (g r).rows.length = len r) →
    ∃ p, purLL (pur h 4) (l.map fun r => [D.own (r + 90000) 0 (len r)]) = some (l.map (· + 90000), p, l.map fun r => [D.sl false (g r).rows]) ∧ p
  | [], _ => ⟨True, rfl, trivial⟩
  | r :: l, hg => by
    obtain ⟨p, e, hp⟩ := purLL_ownV (h := h) (len := len) (g := g) l fun r hr => hg r (by simp [hr])
    obtain ⟨h1, h2, h3⟩ := hg r (by simp)
    refine ⟨((0 + len r ≤ (g r).rows.length) ∧ True) ∧ p, ?_, ⟨⟨by omega, trivial⟩, hp⟩⟩
    rw [List.map_cons, purLL, e]
    simp only [purL, pur, purB, h1, h2, if_true, List.nil_append, List.cons_append, List.map_cons, List.append_nil, List.drop_zero, List.take_of_length_le (Nat.le_of_eq h3)]
def nilRows (j n : Nat) : List (List D) := (List.range n).map fun r => if r < j then [D.own (r + 90000) 0 0] else [D.sl true []]
theorem nilRows_zero (n : Nat) : nilRows 0 n = List.replicate n [D.sl true []] := by
  apply List.ext_getElem <;> simp [nilRows]
theorem nilRows_all (n : Nat) : nilRows n n = ownRowsV n fun _ => 0 := by
  apply List.ext_getElem
  · simp [nilRows, ownRowsV]
  · intro i h1 h2
    have : i < n := by simpa [nilRows] using h1
    simp [nilRows, ownRowsV, this]
theorem nilRows_set {j n : Nat} (h : j < n) : (nilRows j n).set j [D.own (j + 90000) 0 0] = nilRows (j + 1) n := by
  apply List.ext_getElem
  · simp [nilRows]
  · intro i h1 h2
    simp only [nilRows, List.getElem_set, List.getElem_map, List.getElem_range]
    by_cases e : j = i
    · subst e; simp
    · rw [if_neg e]
      by_cases g : i < j
      · rw [if_pos g, if_pos (by omega)]
      · rw [if_neg g, if_neg (by omega)]
def lowId (k : Nat) : Bool := decide (k < 90000)
mutual
theorem kill_low {r : Nat} : ∀ {d : D}, d.all lowId = true → d.kill (r + 90000) = d
  | .v _, _ => rfl
  | .agg cs, h => by simp only [D.kill, D.all] at *; rw [killL_low h]
  | .tup cs, h => by simp only [D.kill, D.all] at *; rw [killL_low h]
  | .sl _ _, _ => rfl
  | .ref _ _, _ => rfl
  | .own id _ _, h => by
    simp only [D.all, lowId, decide_eq_true_eq] at h
    simp only [D.kill]; rw [if_neg (by omega)]
  | .ptr id _ _, h => by
    simp only [D.all, lowId, decide_eq_true_eq] at h
    simp only [D.kill]; rw [if_neg (by omega)]
  | .fn _ _ cs, h => by simp only [D.kill, D.all] at *; rw [killL_low h]
  | .junk, _ => rfl
theorem killL_low {r : Nat} : ∀ {cs : List D}, D.allL lowId cs = true → D.killL (r + 90000) cs = cs
  | [], _ => rfl
  | c :: cs, h => by
    simp only [D.killL, D.allL, Bool.and_eq_true] at *
    rw [kill_low h.1, killL_low h.2]
end
theorem killO_low {r : Nat} {o : AObj} (h : o.all lowId = true) : o.kill (r + 90000) = o := by
  unfold AObj.kill
  split
  · rfl
  · rename_i hf
    simp only [AObj.all, Bool.or_eq_true] at h
    have h := h.resolve_left (by simpa using hf)
    have : o.rows.map (D.killL (r + 90000)) = o.rows := by
      rw [List.all_eq_true] at h
      conv => rhs; rw [← List.map_id o.rows]
      apply List.map_congr_left
      intro row hr
      rw [killL_low (h row hr)]; rfl
    rw [this]
section
variable {P : Program} {E : Ent}
theorem awp_fam {c : Code} {Q : Exit → St → Prop} (n : Nat) (sl : List (Nat × D)) (hp : List (Nat × AObj)) (id k s : Nat) (hs : 0 < s) (hid : decide (id < 90000) = true) (hsl : sl.all (fun x => x.2.all lowId) = true)
    (hhp : hp.all (fun x => decide (x.1 < 90000) && x.2.all lowId) = true)
    (h : AWP P E c Q (mkS n sl ((id, { sz := 1, rows := ownRowsV k fun _ => 0, flat := false }) :: (hp ++ fam k fun _ => { sz := s, rows := [] })))) :
    AWP P E c Q (mkS n sl ((id, { sz := 1, rows := List.replicate k [.sl true []], flat := false }) :: hp)) := by
  have hid := of_decide_eq_true hid
  rw [List.all_eq_true] at hsl hhp
  have key : ∀ j, j ≤ k → AWP P E c Q (mkS n sl ((id, { sz := 1, rows := nilRows (k - j) k, flat := false }) :: (hp ++ fam (k - j) fun _ => { sz := s, rows := [] }))) := by
    intro j
    induction j with
    | zero =>
      intro _
      rw [Nat.sub_zero, nilRows_all]
      exact h
    | succ j ih =>
      intro hj
      have ih := ih (by omega)
      rw [show k - j = (k - (j + 1)) + 1 by omega] at ih
      generalize hm : k - (j + 1) = m at *
      have hmk : m < k := by omega
      have hg : (nilRows m k)[m]? = some [.sl true []] := by simp [nilRows, hmk]
      have hkl : (nilRows m k).map (D.killL (m + 90000)) = nilRows m k := by
        simp only [nilRows, List.map_map]
        apply List.map_congr_left
        intro r hr
        simp only [Function.comp]
        split
        · simp only [D.killL, D.kill]; rw [if_neg (by omega)]
        · rfl
      refine awp_own_nilC id m 0 (m + 90000) s (o := { sz := 1, rows := nilRows m k, flat := false }) (row := [.sl true []]) hs ?_ hg rfl rfl ?_
      · simp only [St.bind, upd, killH, mkS, lk, if_true]
        rw [if_neg (by omega), if_neg (by omega)]
        simp only [Option.map_some, AObj.kill, Bool.false_eq_true, if_false, hkl]
      · refine awp_le ih ⟨rfl, fun t d hd => ?_, fun t o ho => ?_, ?_⟩
        · have := hsl _ (lk_mem hd)
          simp only [St.toOwnC, St.bind, killS, mkS]
          simp only [mkS] at hd
          rw [hd, Option.map_some, kill_low this]
        · simp only [St.toOwnC, St.bind, upd, mkS, lk] at ho ⊢
          by_cases ht : t = id
          · subst ht
            simp only [if_true, Option.some.injEq] at ho ⊢
            rw [← ho]
            simp only [List.set_cons_zero, nilRows_set hmk]
          · rw [if_neg ht] at ho ⊢
            rw [lk_app] at ho
            by_cases ht2 : t = m + 90000
            · subst ht2
              rw [if_pos rfl]
              rw [lk_none (l := hp) (fun x hx => by
                have := hhp x hx
                simp only [Bool.and_eq_true, decide_eq_true_eq] at this
                omega), lk_fam (Nat.lt_succ_self m)] at ho
              exact ho
            · rw [if_neg ht2]
              simp only [killH]
              rw [if_neg ht2, if_neg ht]
              cases hh : lk hp t with
              | some o' =>
                rw [hh] at ho
                simp only [Option.some.injEq] at ho
                subst ho
                have := hhp _ (lk_mem hh)
                simp only [Bool.and_eq_true] at this
                rw [lk_app, hh]
                simp only [Option.map_some, killO_low this.2]
              | none =>
                rw [hh] at ho
                simp only at ho
                rw [lk_app, hh]
                simp only
                have hmem := lk_mem ho
                obtain ⟨r, hr, e⟩ := List.mem_map.1 hmem
                have hr := List.mem_range.1 hr
                cases e
                rw [lk_fam (by omega)]
                rfl
        · exact fun _ h => h
  have := key k (Nat.le_refl _)
  rw [Nat.sub_self, nilRows_zero] at this
  simpa [fam] using this
end
theorem getD_set_self {l : List Bool} {i : Nat} (h : i < l.length) {x d : Bool} : (l.set i x).getD i d = x := by simp [List.getD, h]
theorem getD_set_nq {l : List Bool} {i j : Nat} (h : i ≠ j) {x d : Bool} : (l.set i x).getD j d = l.getD j d := by simp only [List.getD, List.getElem?_set_ne h]
theorem getD_lt_true {l : List Bool} {i : Nat} (h : l.getD i false = true) : i < l.length := by
  rcases Nat.lt_or_ge i l.length with q | q
  · exact q
  · simp [List.getD, List.getElem?_eq_none q] at h
def itF (f : List Bool → List Bool) (o : List Bool) : Nat → List Bool
  | 0 => o
  | r + 1 => f (itF f o r)
section
variable {f : List Bool → List Bool} (hf : ∀ o, bleB o (f o))
include hf
theorem itF_ble (o : List Bool) : ∀ r, bleB o (itF f o r)
  | 0 => bleB_refl o
  | r + 1 => bleB_trans (itF_ble o r) (hf _)
theorem itF_len (o : List Bool) (r : Nat) : (itF f o r).length = o.length := (itF_ble hf o r).1.symm
theorem itF_grows (o : List Bool) : ∀ r, (∃ q, q ≤ r ∧ f (itF f o q) = itF f o q) ∨ r + 1 ≤ (itF f o (r + 1)).count true
  | 0 => by
    by_cases h : f (itF f o 0) = itF f o 0
    · exact .inl ⟨0, Nat.le_refl _, h⟩
    · right
      have hb := ble_count (hf (itF f o 0))
      have : (itF f o 0).count true ≠ (f (itF f o 0)).count true := fun e => h (hb.2 e).symm
      have e : itF f o (0 + 1) = f (itF f o 0) := rfl
      rw [e]; omega
  | r + 1 => by
    rcases itF_grows o r with ⟨q, h1, h2⟩ | h
    · exact .inl ⟨q, by omega, h2⟩
    · by_cases hs : f (itF f o (r + 1)) = itF f o (r + 1)
      · exact .inl ⟨r + 1, Nat.le_refl _, hs⟩
      · right
        have hb := ble_count (hf (itF f o (r + 1)))
        have : (itF f o (r + 1)).count true ≠ (f (itF f o (r + 1))).count true := fun e => hs (hb.2 e).symm
        have e : itF f o (r + 1 + 1) = f (itF f o (r + 1)) := rfl
        rw [e]; omega
omit hf in
theorem itF_stop {o : List Bool} {r : Nat} (h : f (itF f o r) = itF f o r) : ∀ k, itF f o (r + k) = itF f o r
  | 0 => rfl
  | k + 1 => by rw [← Nat.add_assoc, itF, itF_stop h k, h]
theorem itF_stable (o : List Bool) {n : Nat} (hn : o.length ≤ n) : f (itF f o n) = itF f o n := by
  have key : ∃ q, q ≤ n ∧ f (itF f o q) = itF f o q := by
    rcases itF_grows hf o n with h | h
    · exact h
    · exfalso
      have h1 := List.count_le_length (a := true) (l := itF f o (n + 1))
      rw [itF_len hf] at h1; omega
  obtain ⟨q, h1, h2⟩ := key
  have := itF_stop h2 (n - q)
  rw [show q + (n - q) = n by omega] at this
  rw [this]; exact h2
end
abbrev Mv := List (List (Int × Int))
def rowB (r : List (Int × Int)) (b : List Bool) : Nat → List Bool
  | 0 => b
  | j + 1 => if (r.getD j (0, 0)).1 = -1 then (rowB r b j).set (r.getD j (0, 0)).2.toNat true else rowB r b j
def stB (M : Mv) (b : List Bool) (s : Nat) : List Bool := if b.getD s false = true then rowB (M.getD s []) b (M.getD s []).length else b
def swS (M : Mv) (b : List Bool) : Nat → List Bool
  | 0 => b
  | s + 1 => stB M (swS M b s) s
def swB (M : Mv) (b : List Bool) : List Bool := swS M b M.length
def inB (k : Nat) (l : List Int) : Nat → List Bool
  | 0 => List.replicate k false
  | i + 1 => if 0 ≤ l.getD i 0 ∧ l.getD i 0 < (k : Int) then (inB k l i).set (l.getD i 0).toNat true else inB k l i
def cloB (M : Mv) (l : List Int) : List Bool := itF (swB M) (inB M.length l l.length) M.length
def onL (n : Nat) (p : Nat → Bool) : List Int := ((List.range n).filter p).map fun (x : Nat) => (x : Int)
def cloL (M : Mv) (l : List Int) : List Int := onL M.length fun x => (cloB M l).getD x false
theorem onL_mem {n : Nat} {p : Nat → Bool} {x : Int} : x ∈ onL n p ↔ ∃ y : Nat, x = (y : Int) ∧ y < n ∧ p y = true := by
  simp only [onL, List.mem_map, List.mem_filter, List.mem_range]
  constructor
  · rintro ⟨y, ⟨h1, h2⟩, rfl⟩; exact ⟨y, rfl, h1, h2⟩
  · rintro ⟨y, rfl, h1, h2⟩; exact ⟨y, ⟨h1, h2⟩, rfl⟩
theorem onL_sorted (n : Nat) (p : Nat → Bool) : (onL n p).Pairwise (· < ·) := by
  unfold onL
  rw [List.pairwise_map]
  refine List.Pairwise.imp (fun {a b} h => ?_) ((List.pairwise_lt_range (n := n)).filter p)
  exact Int.ofNat_lt.2 h
theorem onL_len (n : Nat) (p : Nat → Bool) : (onL n p).length ≤ n := by
  unfold onL
  rw [List.length_map]
  have := List.length_filter_le p (List.range n)
  simpa using this
theorem onL_succ (n : Nat) (p : Nat → Bool) : onL (n + 1) p = onL n p ++ (if p n = true then [(n : Int)] else []) := by
  unfold onL
  rw [List.range_succ, List.filter_append, List.map_append]
  congr 1
  by_cases h : p n = true <;> simp [h]
theorem sorted_ext : ∀ {a b : List Int}, a.Pairwise (· < ·) → b.Pairwise (· < ·) → (∀ x, x ∈ a ↔ x ∈ b) → a = b
  | [], [], _, _, _ => rfl
  | [], y :: b, _, _, h => by have := (h y).2 (by simp); cases this
  | x :: a, [], _, _, h => by have := (h x).1 (by simp); cases this
  | x :: a, y :: b, h1, h2, h => by
    rw [List.pairwise_cons] at h1 h2
    have e : x = y := by
      rcases List.mem_cons.1 ((h x).1 (by simp)) with q | q
      · exact q
      · rcases List.mem_cons.1 ((h y).2 (by simp)) with r | r
        · exact r.symm
        · have q1 := h2.1 x q
          have q2 := h1.1 y r
          omega
    subst e
    congr 1
    refine sorted_ext h1.2 h2.2 fun z => ⟨fun hz => ?_, fun hz => ?_⟩
    · rcases List.mem_cons.1 ((h z).1 (by simp [hz])) with q | q
      · have := h1.1 z hz; omega
      · exact q
    · rcases List.mem_cons.1 ((h z).2 (by simp [hz])) with q | q
      · have := h2.1 z hz; omega
      · exact q
theorem rowB_ble (r : List (Int × Int)) (b : List Bool) : ∀ j, bleB b (rowB r b j)
  | 0 => bleB_refl b
  | j + 1 => by
    rw [rowB]
    split
    · exact bleB_trans (rowB_ble r b j) (set_ble _ _)
    · exact rowB_ble r b j
theorem stB_ble (M : Mv) (b : List Bool) (s : Nat) : bleB b (stB M b s) := by
  unfold stB
  split
  · exact rowB_ble _ _ _
  · exact bleB_refl b
theorem swS_ble (M : Mv) (b : List Bool) : ∀ s, bleB b (swS M b s)
  | 0 => bleB_refl b
  | s + 1 => bleB_trans (swS_ble M b s) (stB_ble M _ s)
theorem swB_ble (M : Mv) (b : List Bool) : bleB b (swB M b) := swS_ble M b _
theorem inB_len (k : Nat) (l : List Int) : ∀ i, (inB k l i).length = k
  | 0 => by simp [inB]
  | i + 1 => by
    rw [inB]
    split
    · rw [List.length_set, inB_len k l i]
    · exact inB_len k l i
theorem rowB_len (r : List (Int × Int)) (b : List Bool) (j : Nat) : (rowB r b j).length = b.length := (rowB_ble r b j).1.symm
theorem swS_len (M : Mv) (b : List Bool) (s : Nat) : (swS M b s).length = b.length := (swS_ble M b s).1.symm
theorem cloB_len (M : Mv) (l : List Int) : (cloB M l).length = M.length := by
  unfold cloB
  rw [itF_len (swB_ble M), inB_len]
inductive ER (M : Mv) (l : List Int) : Nat → Prop
  | base {x : Nat} (h : (x : Int) ∈ l) (hk : x < M.length) : ER M l x
  | step {s t : Nat} (hs : ER M l s) (hm : ((-1 : Int), (t : Int)) ∈ M.getD s []) (ht : t < M.length) : ER M l t
theorem ER.lt {M : Mv} {l : List Int} {x : Nat} (h : ER M l x) : x < M.length := by
  cases h with
  | base _ hk => exact hk
  | step _ _ ht => exact ht
theorem inB_er {M : Mv} {l : List Int} : ∀ {i : Nat}, i ≤ l.length → ∀ {x : Nat}, (inB M.length l i).getD x false = true → ER M l x
  | 0, _, x, h => by
    have := getD_lt_true h
    rw [inB_len] at this
    simp [inB, List.getD, this] at h
  | i + 1, hi, x, h => by
    rw [inB] at h
    split at h
    · rename_i hc
      by_cases e : (l.getD i 0).toNat = x
      · subst e
        refine .base ?_ (by omega)
        rw [show (((l.getD i 0).toNat : Nat) : Int) = l.getD i 0 by omega]
        simp [List.getD, List.getElem?_eq_getElem (show i < l.length by omega)]
      · rw [getD_set_nq e] at h
        exact inB_er (by omega) h
    · exact inB_er (by omega) h
theorem inB_keep {k : Nat} {l : List Int} {x : Nat} : ∀ {i j : Nat}, (inB k l i).getD x false = true → (inB k l (i + j)).getD x false = true
  | i, 0, h => h
  | i, j + 1, h => by
    rw [← Nat.add_assoc, inB]
    have := inB_keep (j := j) h
    split
    · exact (set_ble _ _).2 x this
    · exact this
theorem inB_base {k : Nat} {l : List Int} {x : Nat} (h : (x : Int) ∈ l) (hx : x < k) : (inB k l l.length).getD x false = true := by
  obtain ⟨i, hi, e⟩ := List.getElem_of_mem h
  have e2 : l.getD i 0 = (x : Int) := by simp [List.getD, List.getElem?_eq_getElem hi, e]
  have : (inB k l (i + 1)).getD x false = true := by
    rw [inB, if_pos (by omega), e2, Int.toNat_natCast]
    exact getD_set_self (by rw [inB_len]; exact hx)
  have := inB_keep (j := l.length - (i + 1)) this
  rwa [show i + 1 + (l.length - (i + 1)) = l.length by omega] at this
section
variable {L k : Nat} {M : Mv} {l : List Int}
theorem rowB_er (h : MOk L k M) {s : Nat} {b : List Bool} (hs : ER M l s) (hb : ∀ {x : Nat}, b.getD x false = true → ER M l x) : ∀ {j : Nat}, j ≤ (M.getD s []).length → ∀ {x : Nat}, (rowB (M.getD s []) b j).getD x false = true → ER M l x
  | 0, _, x, hx => hb hx
  | j + 1, hj, x, hx => by
    rw [rowB] at hx
    split at hx
    · rename_i hc
      have hm : (M.getD s []).getD j (0, 0) ∈ M.getD s [] := by
        generalize M.getD s [] = r at *
        simp [List.getD, List.getElem?_eq_getElem (show j < r.length by omega)]
      have hg := h.get s _ hm
      generalize (M.getD s []).getD j (0, 0) = y at *
      by_cases e : y.2.toNat = x
      · subst e
        refine .step hs ?_ (by have := h.len; omega)
        rw [show ((y.2.toNat : Nat) : Int) = y.2 by omega, ← hc]
        exact hm
      · rw [getD_set_nq e] at hx
        exact rowB_er h hs hb (by omega) hx
    · exact rowB_er h hs hb (by omega) hx
theorem swS_er (h : MOk L k M) {b : List Bool} (hb : ∀ {x : Nat}, b.getD x false = true → ER M l x) : ∀ {s x : Nat}, (swS M b s).getD x false = true → ER M l x
  | 0, x, hx => hb hx
  | s + 1, x, hx => by
    rw [swS, stB] at hx
    split at hx
    · rename_i hc
      exact rowB_er h (swS_er h hb hc) (fun hx => swS_er h hb hx) (Nat.le_refl _) hx
    · exact swS_er h hb hx
theorem itF_er (h : MOk L k M) {b : List Bool} (hb : ∀ {x : Nat}, b.getD x false = true → ER M l x) : ∀ {r x : Nat}, (itF (swB M) b r).getD x false = true → ER M l x
  | 0, x, hx => hb hx
  | r + 1, x, hx => swS_er h (fun hx => itF_er h hb hx) hx
theorem rowB_has {r : List (Int × Int)} {b : List Bool} {t : Nat} (hm : ((-1 : Int), (t : Int)) ∈ r) (ht : t < b.length) : (rowB r b r.length).getD t false = true := by
  obtain ⟨i, hi, e⟩ := List.getElem_of_mem hm
  have e2 : r.getD i (0, 0) = (-1, (t : Int)) := by simp [List.getD, List.getElem?_eq_getElem hi, e]
  have h1 : (rowB r b (i + 1)).getD t false = true := by
    rw [rowB, e2, if_pos rfl]
    exact getD_set_self (by rw [rowB_len]; exact ht)
  have h2 : ∀ j, (rowB r b (i + 1 + j)).getD t false = true := fun j => by
    induction j with
    | zero => exact h1
    | succ j ih =>
      rw [← Nat.add_assoc, rowB]
      split
      · exact (set_ble _ _).2 t ih
      · exact ih
  have := h2 (r.length - (i + 1))
  rwa [show i + 1 + (r.length - (i + 1)) = r.length by omega] at this
theorem swS_eq {b : List Bool} (h : swB M b = b) : ∀ i, i ≤ M.length → swS M b i = b := by
  intro i hi
  have h1 : bleB b (swS M b i) := swS_ble M b i
  have h2 : ∀ k, bleB (swS M b i) (swS M b (i + k)) := fun k => by
    induction k with
    | zero => exact bleB_refl _
    | succ k ih => exact bleB_trans ih (stB_ble M _ _)
  have h3 := h2 (M.length - i)
  rw [show i + (M.length - i) = M.length by omega, show swS M b M.length = b from h] at h3
  have c1 := ble_count h1
  have c2 := ble_count h3
  exact (c1.2 (by omega)).symm
theorem cloB_iff (h : MOk L k M) {x : Nat} : (cloB M l).getD x false = true ↔ ER M l x := by
  constructor
  · exact itF_er h fun hx => inB_er (Nat.le_refl _) hx
  · intro hx
    have hst : swB M (cloB M l) = cloB M l := itF_stable (swB_ble M) _ (by rw [inB_len]; exact Nat.le_refl _)
    induction hx with
    | base hm hk => exact (itF_ble (swB_ble M) _ _).2 _ (inB_base hm hk)
    | @step s t hs hm ht ih =>
      have hsl : s < M.length := by have := getD_lt_true ih; rwa [cloB_len] at this
      have h1 := swS_eq hst s (by omega)
      have h2 := swS_eq hst (s + 1) (by omega)
      rw [swS, h1, stB, if_pos ih] at h2
      rw [← h2]
      exact rowB_has hm (by rw [cloB_len]; exact ht)
theorem cloL_mem (h : MOk L k M) {x : Int} : x ∈ cloL M l ↔ ∃ y : Nat, x = (y : Int) ∧ ER M l y := by
  unfold cloL
  rw [onL_mem]
  constructor
  · rintro ⟨y, rfl, h1, h2⟩; exact ⟨y, rfl, (cloB_iff h).1 h2⟩
  · rintro ⟨y, rfl, h2⟩; exact ⟨y, rfl, h2.lt, (cloB_iff h).2 h2⟩
end
def stepP (M : Mv) (l : List Int) (a : Int) (s : Nat) : Bool := (List.range M.length).any fun i => l.contains (i : Int) && (M.getD i []).any fun m => m.1 == a && m.2 == (s : Int)
def stepL (M : Mv) (l : List Int) (a : Int) : List Int := onL M.length (stepP M l a)
theorem stepL_mem {L k : Nat} {M : Mv} (h : MOk L k M) {l : List Int} {a x : Int} : x ∈ stepL M l a ↔ ∃ i : Nat, (i : Int) ∈ l ∧ (a, x) ∈ M.getD i [] := by
  unfold stepL
  rw [onL_mem]
  constructor
  · rintro ⟨y, rfl, h1, h2⟩
    simp only [stepP, List.any_eq_true, List.mem_range, Bool.and_eq_true, List.contains_iff_mem, beq_iff_eq] at h2
    obtain ⟨i, hi, hl, ⟨m1, m2⟩, hm, e1, e2⟩ := h2
    simp only at e1 e2
    subst e1 e2
    exact ⟨i, hl, hm⟩
  · rintro ⟨i, hl, hm⟩
    have hg := h.get i _ hm
    have hi : i < M.length := by
      rcases Nat.lt_or_ge i M.length with q | q
      · exact q
      · simp [List.getD, List.getElem?_eq_none q] at hm
    simp only at hg
    refine ⟨x.toNat, by omega, by have := h.len; omega, ?_⟩
    simp only [stepP, List.any_eq_true, List.mem_range, Bool.and_eq_true, List.contains_iff_mem, beq_iff_eq]
    exact ⟨i, hi, hl, _, hm, rfl, by simp only; omega⟩
def outL (L : Nat) (M : Mv) (l : List Int) : List Int := onL L fun a => !(stepL M l (a : Int)).isEmpty
theorem outL_mem {L k : Nat} {M : Mv} (h : MOk L k M) {l : List Int} {a : Int} : a ∈ outL L M l ↔ 0 ≤ a ∧ ∃ (i : Nat) (x : Int), (i : Int) ∈ l ∧ (a, x) ∈ M.getD i [] := by
  unfold outL
  rw [onL_mem]
  constructor
  · rintro ⟨y, rfl, h1, h2⟩
    refine ⟨by omega, ?_⟩
    obtain ⟨x, hx⟩ := List.exists_mem_of_ne_nil (stepL M l (y : Int)) (by intro e; rw [e] at h2; cases h2)
    obtain ⟨i, h3, h4⟩ := (stepL_mem h).1 hx
    exact ⟨i, x, h3, h4⟩
  · rintro ⟨h0, i, x, h1, h2⟩
    have hg := h.get i _ h2
    simp only at hg
    refine ⟨a.toNat, by omega, by omega, ?_⟩
    have hx := (stepL_mem h (l := l)).2 ⟨i, h1, h2⟩
    rw [show ((a.toNat : Nat) : Int) = a by omega]
    cases hs : stepL M l a with
    | nil => rw [hs] at hx; cases hx
    | cons y t => rfl
def finL (F : List Bool) (l : List Int) : Bool := l.any fun s => decide (0 ≤ s) && decide (s < (F.length : Int)) && F.getD s.toNat false
def takS (M : Mv) (l : List Int) : List Int → List Int
  | [] => l
  | a :: w => takS M (cloL M (stepL M l a)) w
def takB (M : Mv) (F : List Bool) (st : Nat) (w : List Int) : Bool := finL F (takS M (cloL M [(st : Int)]) w)
def dTo (M : Mv) (S : List Int) (a : Int) : List Int := cloL M (stepL M S a)
def addQ (q : List (List Int)) (t : List Int) : List (List Int) := if q.contains t = true then q else q ++ [t]
def dFold (M : Mv) (S : List Int) : List (List Int) → List Int → List (List Int)
  | q, [] => q
  | q, a :: ks => dFold M S (addQ q (dTo M S a)) ks
def dQ (L : Nat) (M : Mv) (z : List Int) : Nat → List (List Int)
  | 0 => [z]
  | i + 1 => if i < (dQ L M z i).length then dFold M ((dQ L M z i).getD i []) (dQ L M z i) (outL L M ((dQ L M z i).getD i [])) else dQ L M z i
def dAll (L : Nat) (M : Mv) (z : List Int) : List (List Int) := dQ L M z (2 ^ M.length)
def dNum (M : Mv) (q : List (List Int)) (S : List Int) (a : Int) : Int := if (stepL M S a).isEmpty = true then -1 else ((q.idxOf (dTo M S a) : Nat) : Int)
def dNx (L : Nat) (M : Mv) (q : List (List Int)) : List (List Int) := q.map fun S => (List.range L).map fun (a : Nat) => dNum M q S (a : Int)
def dFin (F : List Bool) (q : List (List Int)) : List Bool := q.map (finL F)
theorem dFold_snoc (M : Mv) (S : List Int) (a : Int) : ∀ (ks : List Int) (q : List (List Int)), dFold M S q (ks ++ [a]) = addQ (dFold M S q ks) (dTo M S a)
  | [], q => rfl
  | b :: ks, q => dFold_snoc M S a ks _
theorem dFold_app (M : Mv) (S : List Int) (ls : List Int) : ∀ (ks : List Int) (q : List (List Int)), dFold M S q (ks ++ ls) = dFold M S (dFold M S q ks) ls
  | [], q => rfl
  | b :: ks, q => dFold_app M S ls ks _
theorem addQ_pre (q : List (List Int)) (t : List Int) : ∃ u, addQ q t = q ++ u := by
  unfold addQ
  split
  · exact ⟨[], by simp⟩
  · exact ⟨_, rfl⟩
theorem addQ_has (q : List (List Int)) (t : List Int) : t ∈ addQ q t := by
  unfold addQ
  split
  · rename_i g; simpa using g
  · simp
theorem dFold_pre (M : Mv) (S : List Int) : ∀ (ks : List Int) (q : List (List Int)), ∃ u, dFold M S q ks = q ++ u
  | [], q => ⟨[], by simp [dFold]⟩
  | a :: ks, q => by
    obtain ⟨u, hu⟩ := addQ_pre q (dTo M S a)
    obtain ⟨v, hv⟩ := dFold_pre M S ks (addQ q (dTo M S a))
    exact ⟨u ++ v, by rw [dFold, hv, hu, List.append_assoc]⟩
theorem dFold_has (M : Mv) (S : List Int) {a : Int} : ∀ (ks : List Int) (q : List (List Int)), a ∈ ks → dTo M S a ∈ dFold M S q ks
  | [], q, h => by cases h
  | b :: ks, q, h => by
    rcases List.mem_cons.1 h with rfl | h
    · obtain ⟨u, hu⟩ := dFold_pre M S ks (addQ q (dTo M S a))
      rw [dFold, hu]
      exact List.mem_append_left _ (addQ_has q _)
    · exact dFold_has M S ks _ h
def subsL : Nat → List (List Int)
  | 0 => [[]]
  | k + 1 => subsL k ++ (subsL k).map fun s => s ++ [(k : Int)]
theorem subsL_len : ∀ k, (subsL k).length = 2 ^ k
  | 0 => rfl
  | k + 1 => by rw [subsL, List.length_append, List.length_map, subsL_len k, Nat.pow_succ]; omega
theorem onL_subs (p : Nat → Bool) : ∀ k, onL k p ∈ subsL k
  | 0 => by simp [onL, subsL]
  | k + 1 => by
    rw [onL_succ, subsL, List.mem_append]
    split
    · exact .inr (List.mem_map.2 ⟨_, onL_subs p k, rfl⟩)
    · left; rw [List.append_nil]; exact onL_subs p k
theorem nd_sub {α : Type} [BEq α] [LawfulBEq α] {l m : List α} (h : l.Nodup) (hs : ∀ x ∈ l, x ∈ m) : l.length ≤ m.length := by
  have h1 : (l.map fun x => m.idxOf x).Nodup := by
    unfold List.Nodup
    rw [List.pairwise_map]
    refine List.Pairwise.imp_of_mem (fun {x y} hx hy hne e => hne ?_) h
    have g1 := List.getElem_idxOf (List.idxOf_lt_length_of_mem (hs x hx))
    have g2 := List.getElem_idxOf (List.idxOf_lt_length_of_mem (hs y hy))
    rw [← g1, ← g2]
    simp only [e]
  have h2 := nodup_len m.length _ h1 fun n hn => by
    obtain ⟨x, hx, rfl⟩ := List.mem_map.1 hn
    exact List.idxOf_lt_length_of_mem (hs x hx)
  simpa using h2
structure DI (M : Mv) (q : List (List Int)) : Prop where
  mem : ∀ S ∈ q, ∃ p, S = onL M.length p
  nd : q.Nodup
theorem DI.len {M : Mv} {q : List (List Int)} (h : DI M q) : q.length ≤ 2 ^ M.length := by
  rw [← subsL_len]
  refine nd_sub h.nd fun S hS => ?_
  obtain ⟨p, rfl⟩ := h.mem S hS
  exact onL_subs p _
theorem DI.add {M : Mv} {q : List (List Int)} (h : DI M q) (S : List Int) (a : Int) : DI M (addQ q (dTo M S a)) := by
  unfold addQ
  split
  · exact h
  · rename_i hn
    refine ⟨fun T hT => ?_, ?_⟩
    · rcases List.mem_append.1 hT with g | g
      · exact h.mem T g
      · rw [List.mem_singleton] at g; subst g; exact ⟨_, rfl⟩
    · rw [List.nodup_append]
      refine ⟨h.nd, by simp, fun x hx y hy => ?_⟩
      rw [List.mem_singleton] at hy
      subst hy
      rintro rfl
      exact hn (by simpa using hx)
theorem DI.fold {M : Mv} (S : List Int) : ∀ (ks : List Int) {q : List (List Int)}, DI M q → DI M (dFold M S q ks)
  | [], q, h => h
  | a :: ks, q, h => DI.fold S ks (h.add S a)
theorem DI.entry {M : Mv} {q : List (List Int)} (h : DI M q) {S : List Int} (hS : S ∈ q) : S.length ≤ M.length ∧ ∀ x ∈ S, 0 ≤ x ∧ x < (M.length : Int) := by
  obtain ⟨p, rfl⟩ := h.mem S hS
  refine ⟨onL_len _ _, fun x hx => ?_⟩
  obtain ⟨y, rfl, hy, _⟩ := onL_mem.1 hx
  omega
theorem dQ_di {L : Nat} {M : Mv} {z : List Int} (hz : ∃ p, z = onL M.length p) : ∀ i, DI M (dQ L M z i)
  | 0 => ⟨fun S hS => by simp only [dQ, List.mem_singleton] at hS; subst hS; exact hz, by simp [dQ]⟩
  | i + 1 => by
    rw [dQ]
    split
    · exact DI.fold _ _ (dQ_di hz i)
    · exact dQ_di hz i
theorem dQ_pre (L : Nat) (M : Mv) (z : List Int) (i : Nat) : ∃ u, dQ L M z (i + 1) = dQ L M z i ++ u := by
  rw [dQ]
  split
  · exact dFold_pre _ _ _ _
  · exact ⟨[], by simp⟩
theorem dQ_pre2 (L : Nat) (M : Mv) (z : List Int) (i : Nat) : ∀ j, ∃ u, dQ L M z (i + j) = dQ L M z i ++ u
  | 0 => ⟨[], by simp⟩
  | j + 1 => by
    obtain ⟨u, hu⟩ := dQ_pre2 L M z i j
    obtain ⟨v, hv⟩ := dQ_pre L M z (i + j)
    exact ⟨u ++ v, by rw [← Nat.add_assoc, hv, hu, List.append_assoc]⟩
theorem dQ_stop {L : Nat} {M : Mv} {z : List Int} {i : Nat} (hi : ¬ i < (dQ L M z i).length) : ∀ j, dQ L M z (i + j) = dQ L M z i
  | 0 => rfl
  | j + 1 => by
    have ih := dQ_stop hi j
    rw [← Nat.add_assoc, dQ, ih, if_neg (by omega)]
structure DA (L k : Nat) (M : Mv) (z : List Int) (Q : List (List Int)) : Prop where
  hM : MOk L k M
  hz : ∃ p, z = onL M.length p
  hQ : Q = dAll L M z
section
variable {L k : Nat} {M : Mv} {z : List Int} {Q : List (List Int)}
theorem DA.di (h : DA L k M z Q) (i : Nat) : DI M (dQ L M z i) := dQ_di h.hz i
theorem DA.diQ (h : DA L k M z Q) : DI M Q := by rw [h.hQ]; exact h.di _
theorem DA.lenQ (h : DA L k M z Q) : Q.length ≤ 2 ^ k := by have := h.diQ.len; rwa [h.hM.len] at this
theorem DA.end_ (h : DA L k M z Q) {i : Nat} (hi : i ≤ 2 ^ k) (hs : ¬ i < (dQ L M z i).length) : dQ L M z i = Q := by
  have := dQ_stop (L := L) (M := M) (z := z) hs (2 ^ k - i)
  rw [show i + (2 ^ k - i) = 2 ^ k by omega] at this
  rw [h.hQ, dAll, h.hM.len, this]
theorem DA.pre (h : DA L k M z Q) {i : Nat} (hi : i ≤ 2 ^ k) : ∃ u, Q = dQ L M z i ++ u := by
  obtain ⟨u, hu⟩ := dQ_pre2 L M z i (2 ^ k - i)
  rw [show i + (2 ^ k - i) = 2 ^ k by omega] at hu
  exact ⟨u, by rw [h.hQ, dAll, h.hM.len, hu]⟩
theorem DA.lt (h : DA L k M z Q) {i : Nat} (hi : i < Q.length) : i < (dQ L M z i).length := by
  by_cases g : i < (dQ L M z i).length
  · exact g
  · have hk := h.lenQ
    have := h.end_ (by omega) g
    rw [this] at g; omega
theorem DA.at_ (h : DA L k M z Q) {i : Nat} (hi : i < Q.length) : (dQ L M z i).getD i [] = Q.getD i [] := by
  have hk := h.lenQ
  obtain ⟨u, hu⟩ := h.pre (i := i) (by omega)
  rw [hu, getD_app_lt (h.lt hi)]
theorem DA.row (h : DA L k M z Q) {i : Nat} (hi : i < Q.length) {ks ls : List Int} (hk : outL L M (Q.getD i []) = ks ++ ls) : ∃ u, Q = dFold M (Q.getD i []) (dQ L M z i) ks ++ u := by
  have hk' := h.lenQ
  obtain ⟨u, hu⟩ := h.pre (i := i + 1) (by omega)
  rw [dQ, if_pos (h.lt hi), h.at_ hi, hk, dFold_app] at hu
  obtain ⟨v, hv⟩ := dFold_pre M (Q.getD i []) ls (dFold M (Q.getD i []) (dQ L M z i) ks)
  rw [hv, List.append_assoc] at hu
  exact ⟨_, hu⟩
theorem outL_iff (a : Int) (S : List Int) : a ∈ outL L M S ↔ ∃ y : Nat, a = (y : Int) ∧ y < L ∧ (stepL M S a).isEmpty = false := by
  unfold outL
  rw [onL_mem]
  constructor
  · rintro ⟨y, rfl, h1, h2⟩; exact ⟨y, rfl, h1, by simpa using h2⟩
  · rintro ⟨y, rfl, h1, h2⟩; exact ⟨y, rfl, h1, by simpa using h2⟩
theorem DA.has (h : DA L k M z Q) {i a : Nat} (hi : i < Q.length) (ha : a < L) (hs : (stepL M (Q.getD i []) (a : Int)).isEmpty = false) : dTo M (Q.getD i []) (a : Int) ∈ Q := by
  obtain ⟨u, hu⟩ := h.row hi (ks := outL L M (Q.getD i [])) (ls := []) (by simp)
  have := dFold_has M (Q.getD i []) (outL L M (Q.getD i [])) (dQ L M z i) ((outL_iff _ _).2 ⟨a, rfl, ha, hs⟩)
  have h2 := List.mem_append_left u this
  rw [← hu] at h2
  exact h2
theorem DA.q0 (h : DA L k M z Q) : 0 < Q.length ∧ Q.getD 0 [] = z := by
  obtain ⟨u, hu⟩ := h.pre (i := 0) (Nat.zero_le _)
  rw [hu]
  simp [dQ]
theorem getD_mapD {α β : Type} (f : α → β) (d : β) (e : α) {q : List α} {i : Nat} (h : i < q.length) : (q.map f).getD i d = f (q.getD i e) := by
  simp [List.getD, List.getElem?_eq_getElem h]
theorem DA.num (h : DA L k M z Q) {i a : Nat} (hi : i < Q.length) (ha : a < L) : -1 ≤ dNum M Q (Q.getD i []) (a : Int) ∧ dNum M Q (Q.getD i []) (a : Int) < (Q.length : Int) := by
  unfold dNum
  split
  · omega
  · rename_i hs
    have := List.idxOf_lt_length_of_mem (h.has hi ha (by simpa using hs))
    omega
theorem DA.ok (h : DA L k M z Q) : NOk L Q.length (dNx L M Q) := by
  refine ⟨by simp [dNx], fun r hr => ?_⟩
  unfold dNx at hr
  obtain ⟨S, hS, rfl⟩ := List.mem_map.1 hr
  obtain ⟨i, hi, rfl⟩ := List.getElem_of_mem hS
  refine ⟨by simp, fun t ht => ?_⟩
  obtain ⟨a, ha, rfl⟩ := List.mem_map.1 ht
  have ha := List.mem_range.1 ha
  have e : Q[i] = Q.getD i [] := by simp [List.getD, List.getElem?_eq_getElem hi]
  rw [e]
  exact h.num hi ha
theorem DA.cell (h : DA L k M z Q) {i a : Nat} (hi : i < Q.length) (ha : a < L) : ((dNx L M Q).getD i []).getD a 0 = dNum M Q (Q.getD i []) (a : Int) := by
  unfold dNx
  rw [getD_mapD _ _ [] hi]
  simp [List.getD, ha]
theorem DA.finLen (Q : List (List Int)) (F : List Bool) : (dFin F Q).length = Q.length := by simp [dFin]
end
theorem cloL_nil (M : Mv) {L k : Nat} (h : MOk L k M) : cloL M [] = [] := by
  cases hc : cloL M [] with
  | nil => rfl
  | cons x t =>
    exfalso
    obtain ⟨y, hxy, hy⟩ := (cloL_mem h (l := []) (x := x)).1 (by rw [hc]; simp)
    clear hxy
    induction hy with
    | base h _ => cases h
    | step _ _ _ ih => exact ih
theorem stepL_nil {L k : Nat} {M : Mv} (h : MOk L k M) (a : Int) : stepL M [] a = [] := by
  cases hc : stepL M [] a with
  | nil => rfl
  | cons x t =>
    exfalso
    obtain ⟨i, hi, _⟩ := (stepL_mem h).1 (show x ∈ stepL M [] a by rw [hc]; simp)
    cases hi
theorem takS_nil {L k : Nat} {M : Mv} (h : MOk L k M) : ∀ w : List Int, takS M [] w = []
  | [] => rfl
  | a :: w => by rw [takS, stepL_nil h, cloL_nil M h, takS_nil h w]
theorem stepL_far {L k : Nat} {M : Mv} (h : MOk L k M) (S : List Int) {a : Int} (ha : (L : Int) ≤ a) : stepL M S a = [] := by
  cases hc : stepL M S a with
  | nil => rfl
  | cons x t =>
    exfalso
    obtain ⟨i, _, hm⟩ := (stepL_mem h).1 (show x ∈ stepL M S a by rw [hc]; simp)
    have := h.get i _ hm
    simp only at this
    omega
set_option maxHeartbeats 4000000 in
theorem c_IdxMv (g : Nat) (row : List D) (hg : FnOk Try.prog g) (f : Bool) (l : List (Int × Int)) (hl : l.length ≤ 100000) (hp : ∀ x ∈ l, Contract Try.prog g [.agg [i64 x.1, i64 x.2], .ref row 0] (bo false) []) :
    Contract Try.prog 94 [.sl f (mvs l), .fn (.func g) 0 [.ref row 0]] (i64 (-1)) [] := by
  refine contract_of_awp (rs := [4]) Try.func94 rfl Try.ntmps94 (by simp) rfl fun E => ?_
  (repeat (first | refine awp_seq ?_ | refine awp_block ?_ | ((first | refine awp_skip ?_ | refine awp_exit ?_ | refine awp_reg ttok ?_ | (refine awp_draw ttok ?dr_calm ?_; (case dr_calm => decide +kernel)) | refine awp_condM ?_); simp (maxSteps := 4000000) only [↓reduceIte, Nat.reduceLT, Nat.reduceEqDiff, reduceCtorEq, Nat.reduceAdd, Nat.reduceMul, Int.reduceLE, Int.reduceLT, Int.reduceToNat, Nat.reduceLeDiff, Nat.reduceSub, Int.reduceEq, Nat.reduceBEq, evB, tyA, mvs_len]; (repeat (with_reducible refine And.intro ?_ ?_; exact sdX)); (with_reducible first | refine awp_id ?_ | refine id_call ?_ | refine id_and ?_ | refine id_ex ?_ | refine id_all ?_ | refine id_nat ?_ | refine id_le ?_))))
  refine awp_loop (X := Nat) (fun i => mkS 19 [(0, .sl f (mvs l)), (1, .fn (.func g) 0 [.ref row 0]), (7, i64 l.length), (8, i64 i)] []) (fun i => i ≤ l.length) (fun i => l.length - i) 0 (Nat.zero_le _) (mkS_le rfl ?_ trivial) ?_
  · simp (maxSteps := 4000000) only [↓reduceIte, Nat.reduceLT, Nat.reduceEqDiff, reduceCtorEq, Nat.reduceAdd, Nat.reduceMul, Int.reduceLE, Int.reduceLT, Int.reduceToNat, Nat.reduceLeDiff, Nat.reduceSub, Int.reduceEq, Nat.reduceBEq, evB]
    try rfl
  · intro i hi
    by_cases hlt : i < l.length
    · have d1 : decide ((i : Int) < (l.length : Int)) = true := by simpa using hlt
      have gi := mvs_get hlt
      have hpx := hp _ (getD_mem hlt (0, 0))
      generalize l.getD i (0, 0) = x at gi hpx
      have hwi : IntKind.i64.wrap ((i : Int) + 1) = ((i + 1 : Nat) : Int) := i64_in (by omega) (by omega)
      (repeat (first | refine awp_seq ?_ | refine awp_block ?_ | ((first | refine awp_skip ?_ | refine awp_exit ?_ | refine awp_reg ttok ?_ | (refine awp_draw ttok ?dr_calm ?_; (case dr_calm => decide +kernel)) | refine awp_condM ?_); simp (maxSteps := 4000000) only [↓reduceIte, Nat.reduceLT, Nat.reduceEqDiff, reduceCtorEq, Nat.reduceAdd, Nat.reduceMul, Int.reduceLE, Int.reduceLT, Int.reduceToNat, Nat.reduceLeDiff, Nat.reduceSub, Int.reduceEq, Nat.reduceBEq, evB, tyA, d1, gi, mvs_len]; (repeat (with_reducible refine And.intro ?_ ?_; exact sdX)); (with_reducible first | refine awp_id ?_ | refine id_call ?_ | refine id_and ?_ | refine id_ex ?_ | refine id_all ?_ | refine id_nat ?_ | refine id_le ?_))))
      refine callVC_scal hg hpx rfl ?_
      simp (maxSteps := 4000000) only [↓reduceIte, Nat.reduceLT, Nat.reduceEqDiff, reduceCtorEq, Nat.reduceAdd, Nat.reduceMul, Int.reduceLE, Int.reduceLT, Int.reduceToNat, Nat.reduceLeDiff, Nat.reduceSub, Int.reduceEq, Nat.reduceBEq, evB, tyA]
      (repeat (with_reducible refine And.intro ?_ ?_; exact sdX))
      (repeat (first | refine awp_seq ?_ | refine awp_block ?_ | ((first | refine awp_skip ?_ | refine awp_exit ?_ | refine awp_reg ttok ?_ | (refine awp_draw ttok ?dr_calm ?_; (case dr_calm => decide +kernel)) | refine awp_condM ?_); simp (maxSteps := 4000000) only [↓reduceIte, Nat.reduceLT, Nat.reduceEqDiff, reduceCtorEq, Nat.reduceAdd, Nat.reduceMul, Int.reduceLE, Int.reduceLT, Int.reduceToNat, Nat.reduceLeDiff, Nat.reduceSub, Int.reduceEq, Nat.reduceBEq, evB, tyA, hwi]; (repeat (with_reducible refine And.intro ?_ ?_; exact sdX)); (with_reducible first | refine awp_id ?_ | refine id_call ?_ | refine id_and ?_ | refine id_ex ?_ | refine id_all ?_ | refine id_nat ?_ | refine id_le ?_))))
      refine ⟨i + 1, by omega, by omega, mkS_le rfl ?_ trivial⟩
      simp (maxSteps := 4000000) only [↓reduceIte, Nat.reduceLT, Nat.reduceEqDiff, reduceCtorEq, Nat.reduceAdd, Nat.reduceMul, Int.reduceLE, Int.reduceLT, Int.reduceToNat, Nat.reduceLeDiff, Nat.reduceSub, Int.reduceEq, Nat.reduceBEq, evB]
    · have d1 : decide ((i : Int) < (l.length : Int)) = false := by simpa using hlt
      (repeat (first | refine awp_seq ?_ | refine awp_block ?_ | ((first | refine awp_skip ?_ | refine awp_exit ?_ | refine awp_reg ttok ?_ | (refine awp_draw ttok ?dr_calm ?_; (case dr_calm => decide +kernel)) | refine awp_condM ?_); simp (maxSteps := 4000000) only [↓reduceIte, Nat.reduceLT, Nat.reduceEqDiff, reduceCtorEq, Nat.reduceAdd, Nat.reduceMul, Int.reduceLE, Int.reduceLT, Int.reduceToNat, Nat.reduceLeDiff, Nat.reduceSub, Int.reduceEq, Nat.reduceBEq, evB, tyA, d1]; (repeat (with_reducible refine And.intro ?_ ?_; exact sdX)); (with_reducible first | refine awp_id ?_ | refine id_call ?_ | refine id_and ?_ | refine id_ex ?_ | refine id_all ?_ | refine id_nat ?_ | refine id_le ?_))))
      exact awp_ret (ends_plain (.inr rfl) rfl evX)
theorem c_CtMv (g : Nat) (row : List D) (hg : FnOk Try.prog g) (f : Bool) (l : List (Int × Int)) (hl : l.length ≤ 100000) (hp : ∀ x ∈ l, Contract Try.prog g [.agg [i64 x.1, i64 x.2], .ref row 0] (bo false) []) :
    Contract Try.prog 85 [.sl f (mvs l), .fn (.func g) 0 [.ref row 0]] (bo false) [] := by
  refine contract_of_awp (rs := [4]) Try.func85 rfl Try.ntmps85 (by simp) rfl fun E => ?_
  have e : decide ((-1 : Int) ≥ 0) = false := rfl
  (repeat (first | refine awp_seq ?_ | refine awp_block ?_ | ((first | refine awp_skip ?_ | refine awp_exit ?_ | refine awp_reg ttok ?_ | (refine awp_draw ttok ?dr_calm ?_; (case dr_calm => decide +kernel)) | refine awp_condM ?_); simp (maxSteps := 4000000) only [↓reduceIte, Nat.reduceLT, Nat.reduceEqDiff, reduceCtorEq, Nat.reduceAdd, Nat.reduceMul, Int.reduceLE, Int.reduceLT, Int.reduceToNat, Nat.reduceLeDiff, Nat.reduceSub, Int.reduceEq, Nat.reduceBEq, evB, tyA]; (repeat (with_reducible refine And.intro ?_ ?_; exact sdX)); (with_reducible first | refine awp_id ?_ | refine id_call ?_ | refine id_and ?_ | refine id_ex ?_ | refine id_all ?_ | refine id_nat ?_ | refine id_le ?_))))
  refine callVC_scal fnok94 (c_IdxMv g row hg f l hl hp) rfl ?_
  simp (maxSteps := 4000000) only [↓reduceIte, Nat.reduceLT, Nat.reduceEqDiff, reduceCtorEq, Nat.reduceAdd, Nat.reduceMul, Int.reduceLE, Int.reduceLT, Int.reduceToNat, Nat.reduceLeDiff, Nat.reduceSub, Int.reduceEq, Nat.reduceBEq, evB, tyA, e]
  (repeat (with_reducible refine And.intro ?_ ?_; exact sdX))
  (repeat (first | refine awp_seq ?_ | refine awp_block ?_ | ((first | refine awp_skip ?_ | refine awp_exit ?_ | refine awp_reg ttok ?_ | (refine awp_draw ttok ?dr_calm ?_; (case dr_calm => decide +kernel)) | refine awp_condM ?_); simp (maxSteps := 4000000) only [↓reduceIte, Nat.reduceLT, Nat.reduceEqDiff, reduceCtorEq, Nat.reduceAdd, Nat.reduceMul, Int.reduceLE, Int.reduceLT, Int.reduceToNat, Nat.reduceLeDiff, Nat.reduceSub, Int.reduceEq, Nat.reduceBEq, evB, tyA, e]; (repeat (with_reducible refine And.intro ?_ ?_; exact sdX)); (with_reducible first | refine awp_id ?_ | refine id_call ?_ | refine id_and ?_ | refine id_ex ?_ | refine id_all ?_ | refine id_nat ?_ | refine id_le ?_))))
  exact awp_ret (ends_plain (.inr rfl) rfl evX)
set_option maxHeartbeats 4000000 in
theorem c_IdxMM (g : Nat) (row : List D) (hg : FnOk Try.prog g) (f : Bool) (l : List (List (Int × Int))) (hl : l.length ≤ 100000) (hp : ∀ x ∈ l, Contract Try.prog g [.sl false (mvs x), .ref row 0] (bo false) []) :
    Contract Try.prog 93 [.sl f (mmv l), .fn (.func g) 0 [.ref row 0]] (i64 (-1)) [] := by
  refine contract_of_awp (rs := [4]) Try.func93 rfl Try.ntmps93 (by simp) rfl fun E => ?_
  (repeat (first | refine awp_seq ?_ | refine awp_block ?_ | ((first | refine awp_skip ?_ | refine awp_exit ?_ | refine awp_reg ttok ?_ | (refine awp_draw ttok ?dr_calm ?_; (case dr_calm => decide +kernel)) | refine awp_condM ?_); simp (maxSteps := 4000000) only [↓reduceIte, Nat.reduceLT, Nat.reduceEqDiff, reduceCtorEq, Nat.reduceAdd, Nat.reduceMul, Int.reduceLE, Int.reduceLT, Int.reduceToNat, Nat.reduceLeDiff, Nat.reduceSub, Int.reduceEq, Nat.reduceBEq, evB, tyA, mmv_len]; (repeat (with_reducible refine And.intro ?_ ?_; exact sdX)); (with_reducible first | refine awp_id ?_ | refine id_call ?_ | refine id_and ?_ | refine id_ex ?_ | refine id_all ?_ | refine id_nat ?_ | refine id_le ?_))))
  refine awp_loop (X := Nat) (fun i => mkS 19 [(0, .sl f (mmv l)), (1, .fn (.func g) 0 [.ref row 0]), (7, i64 l.length), (8, i64 i)] []) (fun i => i ≤ l.length) (fun i => l.length - i) 0 (Nat.zero_le _) (mkS_le rfl ?_ trivial) ?_
  · simp (maxSteps := 4000000) only [↓reduceIte, Nat.reduceLT, Nat.reduceEqDiff, reduceCtorEq, Nat.reduceAdd, Nat.reduceMul, Int.reduceLE, Int.reduceLT, Int.reduceToNat, Nat.reduceLeDiff, Nat.reduceSub, Int.reduceEq, Nat.reduceBEq, evB]
    try rfl
  · intro i hi
    by_cases hlt : i < l.length
    · have d1 : decide ((i : Int) < (l.length : Int)) = true := by simpa using hlt
      have gi := mmv_get hlt
      have hpx := hp _ (getD_mem hlt [])
      generalize l.getD i [] = x at gi hpx
      have hwi : IntKind.i64.wrap ((i : Int) + 1) = ((i + 1 : Nat) : Int) := i64_in (by omega) (by omega)
      (repeat (first | refine awp_seq ?_ | refine awp_block ?_ | ((first | refine awp_skip ?_ | refine awp_exit ?_ | refine awp_reg ttok ?_ | (refine awp_draw ttok ?dr_calm ?_; (case dr_calm => decide +kernel)) | refine awp_condM ?_); simp (maxSteps := 4000000) only [↓reduceIte, Nat.reduceLT, Nat.reduceEqDiff, reduceCtorEq, Nat.reduceAdd, Nat.reduceMul, Int.reduceLE, Int.reduceLT, Int.reduceToNat, Nat.reduceLeDiff, Nat.reduceSub, Int.reduceEq, Nat.reduceBEq, evB, tyA, d1, gi, mmv_len]; (repeat (with_reducible refine And.intro ?_ ?_; exact sdX)); (with_reducible first | refine awp_id ?_ | refine id_call ?_ | refine id_and ?_ | refine id_ex ?_ | refine id_all ?_ | refine id_nat ?_ | refine id_le ?_))))
      refine callVC_scal hg hpx rfl ?_
      simp (maxSteps := 4000000) only [↓reduceIte, Nat.reduceLT, Nat.reduceEqDiff, reduceCtorEq, Nat.reduceAdd, Nat.reduceMul, Int.reduceLE, Int.reduceLT, Int.reduceToNat, Nat.reduceLeDiff, Nat.reduceSub, Int.reduceEq, Nat.reduceBEq, evB, tyA]
      (repeat (with_reducible refine And.intro ?_ ?_; exact sdX))
      (repeat (first | refine awp_seq ?_ | refine awp_block ?_ | ((first | refine awp_skip ?_ | refine awp_exit ?_ | refine awp_reg ttok ?_ | (refine awp_draw ttok ?dr_calm ?_; (case dr_calm => decide +kernel)) | refine awp_condM ?_); simp (maxSteps := 4000000) only [↓reduceIte, Nat.reduceLT, Nat.reduceEqDiff, reduceCtorEq, Nat.reduceAdd, Nat.reduceMul, Int.reduceLE, Int.reduceLT, Int.reduceToNat, Nat.reduceLeDiff, Nat.reduceSub, Int.reduceEq, Nat.reduceBEq, evB, tyA, hwi]; (repeat (with_reducible refine And.intro ?_ ?_; exact sdX)); (with_reducible first | refine awp_id ?_ | refine id_call ?_ | refine id_and ?_ | refine id_ex ?_ | refine id_all ?_ | refine id_nat ?_ | refine id_le ?_))))
      refine ⟨i + 1, by omega, by omega, mkS_le rfl ?_ trivial⟩
      simp (maxSteps := 4000000) only [↓reduceIte, Nat.reduceLT, Nat.reduceEqDiff, reduceCtorEq, Nat.reduceAdd, Nat.reduceMul, Int.reduceLE, Int.reduceLT, Int.reduceToNat, Nat.reduceLeDiff, Nat.reduceSub, Int.reduceEq, Nat.reduceBEq, evB]
    · have d1 : decide ((i : Int) < (l.length : Int)) = false := by simpa using hlt
      (repeat (first | refine awp_seq ?_ | refine awp_block ?_ | ((first | refine awp_skip ?_ | refine awp_exit ?_ | refine awp_reg ttok ?_ | (refine awp_draw ttok ?dr_calm ?_; (case dr_calm => decide +kernel)) | refine awp_condM ?_); simp (maxSteps := 4000000) only [↓reduceIte, Nat.reduceLT, Nat.reduceEqDiff, reduceCtorEq, Nat.reduceAdd, Nat.reduceMul, Int.reduceLE, Int.reduceLT, Int.reduceToNat, Nat.reduceLeDiff, Nat.reduceSub, Int.reduceEq, Nat.reduceBEq, evB, tyA, d1]; (repeat (with_reducible refine And.intro ?_ ?_; exact sdX)); (with_reducible first | refine awp_id ?_ | refine id_call ?_ | refine id_and ?_ | refine id_ex ?_ | refine id_all ?_ | refine id_nat ?_ | refine id_le ?_))))
      exact awp_ret (ends_plain (.inr rfl) rfl evX)
theorem c_CtMM (g : Nat) (row : List D) (hg : FnOk Try.prog g) (f : Bool) (l : List (List (Int × Int))) (hl : l.length ≤ 100000) (hp : ∀ x ∈ l, Contract Try.prog g [.sl false (mvs x), .ref row 0] (bo false) []) :
    Contract Try.prog 83 [.sl f (mmv l), .fn (.func g) 0 [.ref row 0]] (bo false) [] := by
  refine contract_of_awp (rs := [4]) Try.func83 rfl Try.ntmps83 (by simp) rfl fun E => ?_
  have e : decide ((-1 : Int) ≥ 0) = false := rfl
  (repeat (first | refine awp_seq ?_ | refine awp_block ?_ | ((first | refine awp_skip ?_ | refine awp_exit ?_ | refine awp_reg ttok ?_ | (refine awp_draw ttok ?dr_calm ?_; (case dr_calm => decide +kernel)) | refine awp_condM ?_); simp (maxSteps := 4000000) only [↓reduceIte, Nat.reduceLT, Nat.reduceEqDiff, reduceCtorEq, Nat.reduceAdd, Nat.reduceMul, Int.reduceLE, Int.reduceLT, Int.reduceToNat, Nat.reduceLeDiff, Nat.reduceSub, Int.reduceEq, Nat.reduceBEq, evB, tyA]; (repeat (with_reducible refine And.intro ?_ ?_; exact sdX)); (with_reducible first | refine awp_id ?_ | refine id_call ?_ | refine id_and ?_ | refine id_ex ?_ | refine id_all ?_ | refine id_nat ?_ | refine id_le ?_))))
  refine callVC_scal fnok93 (c_IdxMM g row hg f l hl hp) rfl ?_
  simp (maxSteps := 4000000) only [↓reduceIte, Nat.reduceLT, Nat.reduceEqDiff, reduceCtorEq, Nat.reduceAdd, Nat.reduceMul, Int.reduceLE, Int.reduceLT, Int.reduceToNat, Nat.reduceLeDiff, Nat.reduceSub, Int.reduceEq, Nat.reduceBEq, evB, tyA, e]
  (repeat (with_reducible refine And.intro ?_ ?_; exact sdX))
  (repeat (first | refine awp_seq ?_ | refine awp_block ?_ | ((first | refine awp_skip ?_ | refine awp_exit ?_ | refine awp_reg ttok ?_ | (refine awp_draw ttok ?dr_calm ?_; (case dr_calm => decide +kernel)) | refine awp_condM ?_); simp (maxSteps := 4000000) only [↓reduceIte, Nat.reduceLT, Nat.reduceEqDiff, reduceCtorEq, Nat.reduceAdd, Nat.reduceMul, Int.reduceLE, Int.reduceLT, Int.reduceToNat, Nat.reduceLeDiff, Nat.reduceSub, Int.reduceEq, Nat.reduceBEq, evB, tyA, e]; (repeat (with_reducible refine And.intro ?_ ?_; exact sdX)); (with_reducible first | refine awp_id ?_ | refine id_call ?_ | refine id_and ?_ | refine id_ex ?_ | refine id_all ?_ | refine id_nat ?_ | refine id_le ?_))))
  exact awp_ret (ends_plain (.inr rfl) rfl evX)
theorem c_RMay11 {L k : Nat} {M : List (List (Int × Int))} (h : MOk L k M) (st : Nat) (F : List Bool) (a b : Int) (hx : -1 ≤ a ∧ a < (L : Int) ∧ 0 ≤ b ∧ b < (k : Int)) : Contract Try.prog 86 [.agg [i64 a, i64 b], .ref [i64 L, i64 st, .sl false (bos F), .sl false (mmv M)] 0] (bo false) [] := by
  refine contract_of_awp (rs := [3]) Try.func86 rfl Try.ntmps86 (by simp) rfl fun E => ?_
  have hkl := h.len
  have e1 : decide (a < -1) = false := by simp; omega
  have e2 : decide (a ≥ (L : Int)) = false := by simp; omega
  have e3 : decide (b < 0) = false := by simp; omega
  have e4 : decide (b ≥ (k : Int)) = false := by simp; omega
  (repeat (first | refine awp_seq ?_ | refine awp_block ?_ | ((first | refine awp_skip ?_ | refine awp_exit ?_ | refine awp_reg ttok ?_ | (refine awp_draw ttok ?dr_calm ?_; (case dr_calm => decide +kernel)) | refine awp_condM ?_); simp (maxSteps := 4000000) only [↓reduceIte, Nat.reduceLT, Nat.reduceEqDiff, reduceCtorEq, Nat.reduceAdd, Nat.reduceMul, Int.reduceLE, Int.reduceLT, Int.reduceToNat, Nat.reduceLeDiff, Nat.reduceSub, Int.reduceEq, Nat.reduceBEq, evB, tyA, e1, e2, e3, e4, mmv_len, hkl]; (repeat (with_reducible refine And.intro ?_ ?_; exact sdX)); (with_reducible first | refine awp_id ?_ | refine id_call ?_ | refine id_and ?_ | refine id_ex ?_ | refine id_all ?_ | refine id_nat ?_ | refine id_le ?_))))
  exact awp_ret (ends_plain (.inr rfl) rfl evX)
theorem c_RMay1 {L k : Nat} {M : List (List (Int × Int))} (h : MOk L k M) (hR : ∀ s, (M.getD s []).length ≤ 1000) (st : Nat) (F : List Bool) (x : List (Int × Int)) (hx : x ∈ M) : Contract Try.prog 84 [.sl false (mvs x), .ref [i64 L, i64 st, .sl false (bos F), .sl false (mmv M)] 0] (bo false) [] := by
  refine contract_of_awp (rs := [3]) Try.func84 rfl Try.ntmps84 (by simp) rfl fun E => ?_
  have hxl : x.length ≤ 1000 := by
    obtain ⟨i, hi, e⟩ := List.getElem_of_mem hx
    have := hR i
    rw [List.getD_eq_getElem?_getD, List.getElem?_eq_getElem hi, Option.getD_some, e] at this
    exact this
  have hc := c_CtMv 86 [i64 L, i64 st, .sl false (bos F), .sl false (mmv M)] fnok86 false x (by omega) fun y hy => c_RMay11 h st F y.1 y.2 (h.row x hx y hy)
  (repeat (first | refine awp_seq ?_ | refine awp_block ?_ | ((first | refine awp_skip ?_ | refine awp_exit ?_ | refine awp_reg ttok ?_ | (refine awp_draw ttok ?dr_calm ?_; (case dr_calm => decide +kernel)) | refine awp_condM ?_); simp (maxSteps := 4000000) only [↓reduceIte, Nat.reduceLT, Nat.reduceEqDiff, reduceCtorEq, Nat.reduceAdd, Nat.reduceMul, Int.reduceLE, Int.reduceLT, Int.reduceToNat, Nat.reduceLeDiff, Nat.reduceSub, Int.reduceEq, Nat.reduceBEq, evB, tyA]; (repeat (with_reducible refine And.intro ?_ ?_; exact sdX)); (with_reducible first | refine awp_id ?_ | refine id_call ?_ | refine id_and ?_ | refine id_ex ?_ | refine id_all ?_ | refine id_nat ?_ | refine id_le ?_))))
  refine callVC_scal fnok85 hc rfl ?_
  simp (maxSteps := 4000000) only [↓reduceIte, Nat.reduceLT, Nat.reduceEqDiff, reduceCtorEq, Nat.reduceAdd, Nat.reduceMul, Int.reduceLE, Int.reduceLT, Int.reduceToNat, Nat.reduceLeDiff, Nat.reduceSub, Int.reduceEq, Nat.reduceBEq, evB, tyA]
  (repeat (with_reducible refine And.intro ?_ ?_; exact sdX))
  (repeat (first | refine awp_seq ?_ | refine awp_block ?_ | ((first | refine awp_skip ?_ | refine awp_exit ?_ | refine awp_reg ttok ?_ | (refine awp_draw ttok ?dr_calm ?_; (case dr_calm => decide +kernel)) | refine awp_condM ?_); simp (maxSteps := 4000000) only [↓reduceIte, Nat.reduceLT, Nat.reduceEqDiff, reduceCtorEq, Nat.reduceAdd, Nat.reduceMul, Int.reduceLE, Int.reduceLT, Int.reduceToNat, Nat.reduceLeDiff, Nat.reduceSub, Int.reduceEq, Nat.reduceBEq, evB, tyA]; (repeat (with_reducible refine And.intro ?_ ?_; exact sdX)); (with_reducible first | refine awp_id ?_ | refine id_call ?_ | refine id_and ?_ | refine id_ex ?_ | refine id_all ?_ | refine id_nat ?_ | refine id_le ?_))))
  exact awp_ret (ends_plain (.inr rfl) rfl evX)
set_option maxRecDepth 20000 in
theorem c_RMay {L k : Nat} {M : List (List (Int × Int))} (h : MOk L k M) (hR : ∀ s, (M.getD s []).length ≤ 1000) (hk : 1 ≤ k ∧ k ≤ 2000) (st : Nat) (hst : st < k) (F : List Bool) (hF : F.length = k) : Contract Try.prog 70 [nfaD L st F M] (bo true) [] := by
  refine contract_of_awp (rs := [2]) Try.func70 rfl Try.ntmps70 (by simp) rfl fun E => ?_
  have hkl := h.len
  have hc := c_CtMM 84 [i64 L, i64 st, .sl false (bos F), .sl false (mmv M)] fnok84 false M (by omega) fun x hx => c_RMay1 h hR st F x hx
  have e1 : decide ((L : Int) < 0) = false := by simp
  have e2 : ((k : Int) != (k : Int)) = false := by simp
  have e3 : decide ((k : Int) < 1) = false := by simp; omega
  have e4 : decide ((k : Int) > 2000) = false := by simp; omega
  have e5 : decide ((st : Int) < 0) = false := by simp
  have e6 : decide ((st : Int) ≥ (k : Int)) = false := by simp; omega
  (repeat (first | refine awp_seq ?_ | refine awp_block ?_ | ((first | refine awp_skip ?_ | refine awp_exit ?_ | refine awp_reg ttok ?_ | (refine awp_draw ttok ?dr_calm ?_; (case dr_calm => decide +kernel)) | refine awp_condM ?_); simp (maxSteps := 4000000) only [↓reduceIte, Nat.reduceLT, Nat.reduceEqDiff, reduceCtorEq, Nat.reduceAdd, Nat.reduceMul, Int.reduceLE, Int.reduceLT, Int.reduceToNat, Nat.reduceLeDiff, Nat.reduceSub, Int.reduceEq, Nat.reduceBEq, evB, tyA, nfaD, e1, e2, e3, e4, e5, e6, bos_len, mmv_len, hkl, hF]; (repeat (with_reducible refine And.intro ?_ ?_; exact sdX)); (with_reducible first | refine awp_id ?_ | refine id_call ?_ | refine id_and ?_ | refine id_ex ?_ | refine id_all ?_ | refine id_nat ?_ | refine id_le ?_))))
  refine callVC_scal fnok83 hc rfl ?_
  simp (maxSteps := 4000000) only [↓reduceIte, Nat.reduceLT, Nat.reduceEqDiff, reduceCtorEq, Nat.reduceAdd, Nat.reduceMul, Int.reduceLE, Int.reduceLT, Int.reduceToNat, Nat.reduceLeDiff, Nat.reduceSub, Int.reduceEq, Nat.reduceBEq, evB, tyA]
  (repeat (with_reducible refine And.intro ?_ ?_; exact sdX))
  (repeat (first | refine awp_seq ?_ | refine awp_block ?_ | ((first | refine awp_skip ?_ | refine awp_exit ?_ | refine awp_reg ttok ?_ | (refine awp_draw ttok ?dr_calm ?_; (case dr_calm => decide +kernel)) | refine awp_condM ?_); simp (maxSteps := 4000000) only [↓reduceIte, Nat.reduceLT, Nat.reduceEqDiff, reduceCtorEq, Nat.reduceAdd, Nat.reduceMul, Int.reduceLE, Int.reduceLT, Int.reduceToNat, Nat.reduceLeDiff, Nat.reduceSub, Int.reduceEq, Nat.reduceBEq, evB, tyA]; (repeat (with_reducible refine And.intro ?_ ?_; exact sdX)); (with_reducible first | refine awp_id ?_ | refine id_call ?_ | refine id_and ?_ | refine id_ex ?_ | refine id_all ?_ | refine id_nat ?_ | refine id_le ?_))))
  exact awp_ret (ends_plain (.inr rfl) rfl evX)
set_option maxRecDepth 20000 in
set_option maxHeartbeats 16000000 in
theorem c_DKey (f : Bool) (l : List Int) (hl : l.length ≤ 100000) (hb : ∀ x ∈ l, 0 ≤ x ∧ x < 65535) : Contract Try.prog 72 [.sl f (ints l)] (.v (strK l)) [] := by
  refine contract_of_awp (rs := [2]) Try.func72 rfl Try.ntmps72 (by simp) rfl fun E => ?_
  have r2 : ∀ x y : Int, [[D.v (Value.int IntKind.u8 (IntKind.u8.wrap x))], [D.v (Value.int IntKind.u8 (IntKind.u8.wrap (y.fdiv (2 ^ min 8 IntKind.i64.bits))))]] = bys [kLo x, kHi y] := fun x y => by rw [kLo_val, kHi_val]; rfl
  have hu : IntKind.u64.wrap 8 = 8 := rfl
  ((repeat (first | refine awp_seq ?_ | refine awp_block ?_)); ((first | refine awp_skip ?_ | refine awp_exit ?_ | refine awp_reg ttok ?_ | (refine awp_draw ttok ?dr_calm ?_; (case dr_calm => decide +kernel)) | refine awp_condM ?_); simp (maxSteps := 4000000) only [↓reduceIte, Nat.reduceLT, Nat.reduceEqDiff, reduceCtorEq, Nat.reduceAdd, Nat.reduceMul, Int.reduceLE, Int.reduceLT, Int.reduceToNat, Nat.reduceLeDiff, Nat.reduceSub, Int.reduceEq, Nat.reduceBEq, evB, tyA]; (repeat (with_reducible refine And.intro ?_ ?_; exact sdX)); (with_reducible first | refine awp_id ?_ | refine id_call ?_ | refine id_and ?_ | refine id_ex ?_ | refine id_all ?_ | refine id_nat ?_ | refine id_le ?_)))
  ((repeat (first | refine awp_seq ?_ | refine awp_block ?_)); ((first | refine awp_skip ?_ | refine awp_exit ?_ | refine awp_reg ttok ?_ | (refine awp_draw ttok ?dr_calm ?_; (case dr_calm => decide +kernel)) | refine awp_condM ?_); simp (maxSteps := 4000000) only [↓reduceIte, Nat.reduceLT, Nat.reduceEqDiff, reduceCtorEq, Nat.reduceAdd, Nat.reduceMul, Int.reduceLE, Int.reduceLT, Int.reduceToNat, Nat.reduceLeDiff, Nat.reduceSub, Int.reduceEq, Nat.reduceBEq, evB, tyA]; (repeat (with_reducible refine And.intro ?_ ?_; exact sdX)); (with_reducible first | refine awp_id ?_ | refine id_call ?_ | refine id_and ?_ | refine id_ex ?_ | refine id_all ?_ | refine id_nat ?_ | refine id_le ?_)))
  refine awp_own_nil 3 90000 1 evX (by decide) ?_
  (repeat (first | refine awp_seq ?_ | refine awp_block ?_ | ((first | refine awp_skip ?_ | refine awp_exit ?_ | refine awp_reg ttok ?_ | (refine awp_draw ttok ?dr_calm ?_; (case dr_calm => decide +kernel)) | refine awp_condM ?_); simp (maxSteps := 4000000) only [↓reduceIte, Nat.reduceLT, Nat.reduceEqDiff, reduceCtorEq, Nat.reduceAdd, Nat.reduceMul, Int.reduceLE, Int.reduceLT, Int.reduceToNat, Nat.reduceLeDiff, Nat.reduceSub, Int.reduceEq, Nat.reduceBEq, evB, tyA, St.toOwn]; (repeat (with_reducible refine And.intro ?_ ?_; exact sdX)); (with_reducible first | refine awp_id ?_ | refine id_call ?_ | refine id_and ?_ | refine id_ex ?_ | refine id_all ?_ | refine id_nat ?_ | refine id_le ?_))))
  refine awp_loop (X := Nat) (fun i => mkS 23 [(3, .own 90000 0 (kBy (l.take i)).length), (6, .sl f (ints l)), (7, i64 l.length), (8, i64 i)] [(90000, { sz := 1, rows := bys (kBy (l.take i)) })]) (fun i => i ≤ l.length) (fun i => l.length - i) 0 (Nat.zero_le _) (mkS_le rfl ?_ ?_) ?_
  · simp (maxSteps := 4000000) only [↓reduceIte, Nat.reduceLT, Nat.reduceEqDiff, reduceCtorEq, Nat.reduceAdd, Nat.reduceMul, Int.reduceLE, Int.reduceLT, Int.reduceToNat, Nat.reduceLeDiff, Nat.reduceSub, Int.reduceEq, Nat.reduceBEq, evB, kBy, List.flatMap_nil]
    try rfl
  · simp (maxSteps := 4000000) only [↓reduceIte, Nat.reduceLT, Nat.reduceEqDiff, reduceCtorEq, Nat.reduceAdd, Nat.reduceMul, Int.reduceLE, Int.reduceLT, Int.reduceToNat, Nat.reduceLeDiff, Nat.reduceSub, Int.reduceEq, Nat.reduceBEq, evB, kBy, List.flatMap_nil, bys]
    try rfl
  · intro i hi
    have hbl := kBy_len (l.take i)
    rw [List.length_take] at hbl
    by_cases hlt : i < l.length
    · have d1 : decide ((i : Int) < (l.length : Int)) = true := by simpa using hlt
      have hwi : IntKind.i64.wrap ((i : Int) + 1) = ((i + 1 : Nat) : Int) := i64_in (by omega) (by omega)
      have hgw := ints_get hlt
      have hst : kBy (l.take (i + 1)) = kBy (l.take i) ++ [kLo (l.getD i 0), kHi (l.getD i 0)] := by rw [take_snoc hlt 0, kBy_snoc]
      generalize l.getD i 0 = x at *
      generalize kBy (l.take i) = B at *
      have htk : List.take B.length B = B := List.take_of_length_le (Nat.le_refl _)
      (repeat (first | refine awp_seq ?_ | refine awp_block ?_ | ((first | refine awp_skip ?_ | refine awp_exit ?_ | refine awp_reg ttok ?_ | (refine awp_draw ttok ?dr_calm ?_; (case dr_calm => decide +kernel)) | refine awp_condM ?_); simp (maxSteps := 4000000) only [↓reduceIte, Nat.reduceLT, Nat.reduceEqDiff, reduceCtorEq, Nat.reduceAdd, Nat.reduceMul, Int.reduceLE, Int.reduceLT, Int.reduceToNat, Nat.reduceLeDiff, Nat.reduceSub, Int.reduceEq, Nat.reduceBEq, evB, tyA, d1, hgw, hwi, hu, r2, htk, bys_len, bys_take, bys_app]; (repeat (with_reducible refine And.intro ?_ ?_; exact sdX)); (with_reducible first | refine awp_id ?_ | refine id_call ?_ | refine id_and ?_ | refine id_ex ?_ | refine id_all ?_ | refine id_nat ?_ | refine id_le ?_))))
      refine ⟨i + 1, by omega, by omega, mkS_le rfl ?_ ?_⟩
      · simp (maxSteps := 4000000) only [↓reduceIte, Nat.reduceLT, Nat.reduceEqDiff, reduceCtorEq, Nat.reduceAdd, Nat.reduceMul, Int.reduceLE, Int.reduceLT, Int.reduceToNat, Nat.reduceLeDiff, Nat.reduceSub, Int.reduceEq, Nat.reduceBEq, evB, hst, List.length_append]
        try rfl
      · simp (maxSteps := 4000000) only [↓reduceIte, Nat.reduceLT, Nat.reduceEqDiff, reduceCtorEq, Nat.reduceAdd, Nat.reduceMul, Int.reduceLE, Int.reduceLT, Int.reduceToNat, Nat.reduceLeDiff, Nat.reduceSub, Int.reduceEq, Nat.reduceBEq, evB, hst]
    · have d1 : decide ((i : Int) < (l.length : Int)) = false := by simpa using hlt
      have hft : l.take i = l := List.take_of_length_le (by omega)
      rw [hft]
      (repeat (first | refine awp_seq ?_ | refine awp_block ?_ | ((first | refine awp_skip ?_ | refine awp_exit ?_ | refine awp_reg ttok ?_ | (refine awp_draw ttok ?dr_calm ?_; (case dr_calm => decide +kernel)) | refine awp_condM ?_); simp (maxSteps := 4000000) only [↓reduceIte, Nat.reduceLT, Nat.reduceEqDiff, reduceCtorEq, Nat.reduceAdd, Nat.reduceMul, Int.reduceLE, Int.reduceLT, Int.reduceToNat, Nat.reduceLeDiff, Nat.reduceSub, Int.reduceEq, Nat.reduceBEq, evB, tyA, d1]; (repeat (with_reducible refine And.intro ?_ ?_; exact sdX)); (with_reducible first | refine awp_id ?_ | refine id_call ?_ | refine id_and ?_ | refine id_ex ?_ | refine id_all ?_ | refine id_nat ?_ | refine id_le ?_))))
      refine awp_ret (ends_plain (.inr rfl) rfl ?_)
      simp (maxSteps := 4000000) only [↓reduceIte, Nat.reduceLT, Nat.reduceEqDiff, reduceCtorEq, Nat.reduceAdd, Nat.reduceMul, Int.reduceLE, Int.reduceLT, Int.reduceToNat, Nat.reduceLeDiff, Nat.reduceSub, Int.reduceEq, Nat.reduceBEq, evB, strK, kStr, List.take_of_length_le (Nat.le_refl _)]
end Go.Proofs.Ytcpipfodedfpkaa
