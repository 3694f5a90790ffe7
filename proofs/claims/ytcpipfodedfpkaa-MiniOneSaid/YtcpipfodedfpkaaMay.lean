import Derived.Test.YtcpipfodedfpkaaOl
import Derived.Test.YtcpipfodedfpkaaTy
set_option linter.unusedSimpArgs false
set_option linter.unusedVariables false
namespace Go.Proofs.Ytcpipfodedfpkaa
open Go.Ab
theorem dead_iff {c : List Int} {t : Int} : dead c t = false ↔ 0 ≤ t ∧ 0 ≤ cl c t := by
  simp only [dead, Bool.or_eq_false_iff, decide_eq_false_iff_not]
  omega
theorem dead_neg {c : List Int} {t : Int} (h : t < 0) : dead c t = true := by
  unfold dead
  rw [decide_eq_true h, Bool.true_or]
theorem oNum_bd {c q : List Int} {t : Int} (h : dead c t = false → cl c t ∈ q.map (cl c)) : -1 ≤ oNum c q t ∧ oNum c q t < (q.length : Int) := by
  unfold oNum
  cases hd : dead c t
  · have h1 := List.idxOf_lt_length_of_mem (h hd)
    rw [List.length_map] at h1
    simp only [Bool.false_eq_true, if_false]
    omega
  · simp only [if_true]; omega
theorem getD_mapI {α : Type} (f : Int → α) (d : α) {q : List Int} {i : Nat} (h : i < q.length) : (q.map f).getD i d = f (q.getD i 0) := by
  simp [List.getD, List.getElem?_eq_getElem h]
structure OA (L k : Nat) (N : List (List Int)) (F : List Bool) (st : Nat) (Q : List Int) : Prop where
  ok : NOk L k N
  hF : F.length = k
  hst : st < k
  h0 : 0 ≤ (clsF F N).getD st 0
  hQ : Q = oAll N (clsF F N) st
section
variable {L k st : Nat} {N : List (List Int)} {F : List Bool} {Q : List Int}
theorem OA.oi (h : OA L k N F st Q) (i : Nat) : OI k (clsF F N) (oQ N (clsF F N) st i) := oQ_oi h.ok h.hst h.h0 i
theorem OA.oiQ (h : OA L k N F st Q) : OI k (clsF F N) Q := by rw [h.hQ]; exact h.oi _
theorem OA.bd (h : OA L k N F st Q) {q : List Int} (hq : OI k (clsF F N) q) : q.length ≤ k := by
  have hl := h.ok.len
  have hF := h.hF
  refine hq.len (fun x hx => ?_) ?_
  · rw [← clsF_fix (F := F) (N := N) (by omega)] at hx
    simp only [refL, List.mem_map, List.mem_range] at hx
    obtain ⟨i, hi, rfl⟩ := hx
    have := refI_bd (lv := liveL F N) (c := clsF F N) i hi
    omega
  · rw [show (clsF F N).length = F.length from clsR_len (by omega) _, hF]
theorem OA.lenQ (h : OA L k N F st Q) : Q.length ≤ k := h.bd h.oiQ
theorem OA.pre (h : OA L k N F st Q) (i : Nat) (hi : i ≤ k) : ∃ u, Q = oQ N (clsF F N) st i ++ u := by
  rw [h.hQ]; exact oAll_pre (by rw [h.ok.len]; exact hi)
theorem OA.lt (h : OA L k N F st Q) {i : Nat} (hi : i < Q.length) : i < (oQ N (clsF F N) st i).length := by
  by_cases g : i < (oQ N (clsF F N) st i).length
  · exact g
  · have hk := h.lenQ
    have := oAll_of (N := N) (c := clsF F N) (st := st) (i := i) (by rw [h.ok.len]; omega) g
    rw [← h.hQ] at this
    rw [this] at g; omega
theorem OA.at_ (h : OA L k N F st Q) {i : Nat} (hi : i < Q.length) : (oQ N (clsF F N) st i).getD i 0 = Q.getD i 0 := by
  have hk := h.lenQ
  obtain ⟨u, hu⟩ := h.pre i (by omega)
  rw [hu, getD_app_lt (h.lt hi)]
theorem OA.st_ (h : OA L k N F st Q) {i : Nat} (hi : i < Q.length) : ∃ s : Nat, Q.getD i 0 = (s : Int) ∧ s < k ∧ (liveL F N).getD s false = true := by
  obtain ⟨s, h1, h2, h3⟩ := h.oiQ.get hi
  exact ⟨s, h1, h2, (clsF_live h.ok h.hF h2).2 h3⟩
theorem OA.row (h : OA L k N F st Q) {i a : Nat} (hi : i < Q.length) (ha : a ≤ L) : ∃ u, Q = oRow N (clsF F N) (oQ N (clsF F N) st i) (Q.getD i 0).toNat a ++ u := by
  have hk := h.lenQ
  have := oRow_all (N := N) (c := clsF F N) (st := st) (i := i) (a := a) (h.lt hi) (by rw [h.ok.len]; omega)
  obtain ⟨s, h1, h2, h3⟩ := h.st_ hi
  rw [h.at_ hi, h1, Int.toNat_natCast, (h.ok.get h2).1, ← h.hQ] at this
  rw [h1, Int.toNat_natCast]
  exact this ha
theorem OA.has (h : OA L k N F st Q) {i s a : Nat} (hi : i < Q.length) (hs : Q.getD i 0 = (s : Int)) (ha : a < L) (hd : dead (clsF F N) ((N.getD s []).getD a 0) = false) : cl (clsF F N) ((N.getD s []).getD a 0) ∈ Q.map (cl (clsF F N)) := by
  obtain ⟨u, hu⟩ := h.row hi (a := a + 1) (by omega)
  rw [hs, Int.toNat_natCast, oRow] at hu
  rw [hu, List.map_append]
  exact List.mem_append_left _ (oAdd_has hd)
theorem OA.q0 (h : OA L k N F st Q) : 0 < Q.length ∧ Q.getD 0 0 = (st : Int) := by
  obtain ⟨u, hu⟩ := h.pre 0 (Nat.zero_le _)
  rw [hu]
  simp [oQ]
theorem OA.cell (h : OA L k N F st Q) {i s a : Nat} (hi : i < Q.length) (hs : Q.getD i 0 = (s : Int)) (hsk : s < k) (ha : a < L) : ((oNx N (clsF F N) Q).getD i []).getD a 0 = oNum (clsF F N) Q ((N.getD s []).getD a 0) := by
  have hr := (h.ok.get hsk).1
  unfold oNx
  rw [getD_mapI _ _ hi, hs, Int.toNat_natCast, getD_mapI _ _ (by omega)]
theorem OA.ok2 (h : OA L k N F st Q) : NOk L Q.length (oNx N (clsF F N) Q) := by
  refine ⟨by simp [oNx], fun r hr => ?_⟩
  unfold oNx at hr
  obtain ⟨s', hs', rfl⟩ := List.mem_map.1 hr
  obtain ⟨i, hi, rfl⟩ := List.getElem_of_mem hs'
  obtain ⟨s, h1, h2, h3⟩ := h.st_ hi
  have e : Q[i] = (s : Int) := by rw [← h1]; exact getE hi
  rw [e, Int.toNat_natCast]
  have hrl := (h.ok.get h2).1
  refine ⟨by rw [List.length_map, hrl], fun t ht => ?_⟩
  obtain ⟨u, hu, rfl⟩ := List.mem_map.1 ht
  obtain ⟨a, ha, rfl⟩ := List.getElem_of_mem hu
  refine oNum_bd fun hd => ?_
  rw [getE ha] at hd ⊢
  exact h.has hi h1 (by omega) hd
theorem OA.hF2 (h : OA L k N F st Q) : (oFin F Q).length = Q.length := by simp [oFin]
theorem OA.lang (h : OA L k N F st Q) : ∀ (w : List Int) (i s : Nat), i < Q.length → Q.getD i 0 = (s : Int) → endsD (oFin F Q) (oNx N (clsF F N) Q) i w = endsD F N s w
  | [], i, s, hi, hs => by
    have f : ∀ (F : List Bool) (N : List (List Int)) (s : Nat), endsD F N s [] = F.getD s false := fun F N s => by
      simp only [endsD, runD, Int.toNat_natCast]; simp
    rw [f, f, oFin, getD_mapI _ _ hi, hs, Int.toNat_natCast]
  | a :: w, i, s, hi, hs => by
    obtain ⟨s', h1, h2, h3⟩ := h.st_ hi
    rw [hs] at h1
    obtain rfl : s = s' := by omega
    rw [ends_cons, ends_cons]
    by_cases ha : 0 ≤ a ∧ a < (L : Int)
    · obtain ⟨b, rfl⟩ := Int.eq_ofNat_of_zero_le ha.1
      have hb : b < L := by omega
      rw [toD_at h.ok2 hi ha, toD_at h.ok h2 ha, Int.toNat_natCast, h.cell hi hs h2 hb]
      have hhas := h.has hi hs hb
      have htb := h.ok.at h2 hb
      generalize (N.getD s []).getD b 0 = t at *
      cases hd : dead (clsF F N) t
      · have hm := hhas hd
        obtain ⟨t0, hc⟩ := dead_iff.1 hd
        obtain ⟨n, rfl⟩ := Int.eq_ofNat_of_zero_le t0
        have hn : n < k := by omega
        have hln := (clsF_live h.ok h.hF hn).2 (by simpa [cl] using hc)
        have hj := List.idxOf_lt_length_of_mem hm
        have hg := List.getElem_idxOf hj
        unfold oNum
        rw [hd, if_neg (by simp)]
        generalize (Q.map (cl (clsF F N))).idxOf (cl (clsF F N) ((n : Nat) : Int)) = j at *
        have hj2 : j < Q.length := by simpa using hj
        rw [List.getElem_map] at hg
        obtain ⟨m, m1, m2, m3⟩ := h.st_ hj2
        rw [h.lang w j m hj2 m1]
        rw [getE hj2, m1] at hg
        exact lang_of_cls h.ok h.hF w m n m2 hn m3 hln (by simpa [cl] using hg)
      · unfold oNum
        rw [hd, if_pos rfl, ends_neg (by decide)]
        by_cases ht : t < 0
        · rw [ends_neg ht]
        · obtain ⟨n, rfl⟩ := Int.eq_ofNat_of_zero_le (Int.not_lt.1 ht)
          have hn : n < k := by omega
          cases hq : (liveL F N).getD n false
          · rw [dead_word h.ok h.hF hn hq]
          · have := (clsF_live h.ok h.hF hn).1 hq
            have hd2 : dead (clsF F N) ((n : Nat) : Int) = false := dead_iff.2 ⟨by omega, by simpa [cl] using this⟩
            rw [hd] at hd2; cases hd2
    · rw [toD_far h.ok2 hi ha, toD_far h.ok h2 ha, ends_neg (by decide), ends_neg (by decide)]
theorem OA.apart (h : OA L k N F st Q) {i j : Nat} (hi : i < Q.length) (hj : j < Q.length) (hw : ∀ w, endsD (oFin F Q) (oNx N (clsF F N) Q) i w = endsD (oFin F Q) (oNx N (clsF F N) Q) j w) : i = j := by
  obtain ⟨s, s1, s2, s3⟩ := h.st_ hi
  obtain ⟨t, t1, t2, t3⟩ := h.st_ hj
  have e : (clsF F N).getD s 0 = (clsF F N).getD t 0 := cls_of_lang h.ok h.hF (F.length + 2) s t s2 t2 s3 t3 fun w => by rw [← h.lang w i s hi s1, ← h.lang w j t hj t1]; exact hw w
  have g1 := getD_mapI (cl (clsF F N)) 0 hi
  have g2 := getD_mapI (cl (clsF F N)) 0 hj
  rw [s1] at g1; rw [t1] at g2
  have e2 : (Q.map (cl (clsF F N))).getD i 0 = (Q.map (cl (clsF F N))).getD j 0 := by
    rw [g1, g2]
    simpa [cl] using e
  have hi2 : i < (Q.map (cl (clsF F N))).length := by simpa using hi
  have hj2 : j < (Q.map (cl (clsF F N))).length := by simpa using hj
  rw [← getE hi2, ← getE hj2] at e2
  exact (List.getElem_inj h.oiQ.nd).1 e2
theorem OA.alive (h : OA L k N F st Q) {i : Nat} (hi : i < Q.length) : (liveL (oFin F Q) (oNx N (clsF F N) Q)).getD i false = true := by
  obtain ⟨s, s1, s2, s3⟩ := h.st_ hi
  obtain ⟨w, hw⟩ := (live_word h.ok h.hF s2).1 s3
  exact (live_word h.ok2 h.hF2 hi).2 ⟨w, by rw [h.lang w i s hi s1]; exact hw⟩
def metO (N : List (List Int)) (c : List Int) (st : Nat) (Q : List Int) (i a : Nat) : Nat := (oRow N c (oQ N c st i) (Q.getD i 0).toNat a).length
theorem OA.met (h : OA L k N F st Q) {i a : Nat} (hi : i < Q.length) (ha : a < L) : ∃ x : Int, ((oNx N (clsF F N) Q).getD i []).getD a 0 = x ∧ -1 ≤ x ∧
    ((x < (metO N (clsF F N) st Q i a : Int) ∧ metO N (clsF F N) st Q i (a + 1) = metO N (clsF F N) st Q i a) ∨ (x = (metO N (clsF F N) st Q i a : Int) ∧ metO N (clsF F N) st Q i (a + 1) = metO N (clsF F N) st Q i a + 1)) := by
  obtain ⟨s, s1, s2, s3⟩ := h.st_ hi
  refine ⟨_, h.cell hi s1 s2 ha, (oNum_bd (h.has hi s1 ha)).1, ?_⟩
  obtain ⟨u, hu⟩ := h.row hi (a := a + 1) (by omega)
  unfold metO
  rw [s1, Int.toNat_natCast] at hu ⊢
  rw [oRow] at hu ⊢
  have hnum := oNum_pre (c := clsF F N) (q := oAdd (clsF F N) (oRow N (clsF F N) (oQ N (clsF F N) st i) s a) ((N.getD s []).getD a 0)) (u := u) (t := (N.getD s []).getD a 0) oAdd_has
  rw [← hu] at hnum
  rw [hnum]
  generalize oRow N (clsF F N) (oQ N (clsF F N) st i) s a = q
  generalize (N.getD s []).getD a 0 = t
  cases hd : dead (clsF F N) t
  · cases hc : (q.map (cl (clsF F N))).contains (cl (clsF F N) t)
    · right
      unfold oNum oAdd
      simp only [hd, hc, Bool.false_eq_true, if_false, List.length_append, List.length_cons, List.length_nil]
      rw [List.map_append, List.idxOf_append, if_neg (by simpa using hc)]
      simp
    · left
      have hm : cl (clsF F N) t ∈ q.map (cl (clsF F N)) := by simpa using hc
      have := List.idxOf_lt_length_of_mem hm
      rw [List.length_map] at this
      unfold oNum oAdd
      simp only [hd, hc, Bool.false_eq_true, if_false, if_true]
      exact ⟨by omega, trivial⟩
  · left
    unfold oNum oAdd
    simp only [hd, if_true]
    exact ⟨by omega, trivial⟩
theorem metO_0 (Q : List Int) (i : Nat) : metO N (clsF F N) st Q i 0 = (oQ N (clsF F N) st i).length := rfl
theorem OA.metN (h : OA L k N F st Q) {i : Nat} (hi : i < Q.length) : metO N (clsF F N) st Q i L = (oQ N (clsF F N) st (i + 1)).length := by
  obtain ⟨s, s1, s2, s3⟩ := h.st_ hi
  rw [oQ, if_pos (h.lt hi), oStp, h.at_ hi]
  unfold metO
  rw [s1, Int.toNat_natCast, (h.ok.get s2).1]
theorem kst_own {N : List (List Int)} {F : List Bool} (h : NOk L k N) (hF : F.length = k) (hlv : ∀ i, i < k → (liveL F N).getD i false = true) (hap : ∀ i j, i < k → j < k → (∀ w, endsD F N i w = endsD F N j w) → i = j) : ∀ i, i ≤ k → (kst N (liveL F N) (clsF F N) i).length = i ∧ (i < k → (clsF F N).getD i 0 = (i : Int))
  | i, hik => by
    have hl := h.len
    have hnew : ∀ i, i < k → (kst N (liveL F N) (clsF F N) i).contains (keyL N (liveL F N) (clsF F N) i) = false := fun i hi => by
      rw [Bool.eq_false_iff]
      intro hc
      obtain ⟨j, hj, lj, e⟩ := kst_in (show keyL N (liveL F N) (clsF F N) i ∈ kst N (liveL F N) (clsF F N) i by simpa using hc)
      have e2 := (clsF_key h hF hi (by omega) (hlv i hi) lj).2 e
      have := hap i j hi (by omega) fun w => lang_of_cls h hF w i j hi (by omega) (hlv i hi) lj e2
      omega
    have hlen : ∀ i, i ≤ k → (kst N (liveL F N) (clsF F N) i).length = i := fun i => by
      induction i with
      | zero => intro _; rfl
      | succ i ih =>
        intro hi
        rw [kst, if_pos (hlv i (by omega)), addK, hnew i (by omega), if_neg (by simp), List.length_append, ih (by omega)]
        rfl
    refine ⟨hlen i hik, fun hi => ?_⟩
    rw [clsF_get h hF hi, refI_at (by omega) (hlv i hi), kst, if_pos (hlv i hi), addK, hnew i hi, if_neg (by simp), List.idxOf_append, if_neg (by simpa using hnew i hi), hlen i hik]
    simp
def rgI (n : Nat) : List Int := (List.range n).map fun (i : Nat) => (i : Int)
theorem rgI_len (n : Nat) : (rgI n).length = n := by simp [rgI]
theorem rgI_get {n i : Nat} (h : i < n) : (rgI n).getD i 0 = (i : Int) := by simp [rgI, List.getD, h]
theorem rgI_succ (n : Nat) : rgI (n + 1) = rgI n ++ [(n : Int)] := by simp [rgI, List.range_succ]
theorem OA.cls2 (h : OA L k N F st Q) {i : Nat} (hi : i < Q.length) : (clsF (oFin F Q) (oNx N (clsF F N) Q)).getD i 0 = (i : Int) :=
  (kst_own h.ok2 h.hF2 (fun i hi => h.alive hi) (fun i j hi hj hw => h.apart hi hj hw) i (by omega)).2 hi
theorem OA.cl2 (h : OA L k N F st Q) {i : Nat} (hi : i < Q.length) : cl (clsF (oFin F Q) (oNx N (clsF F N) Q)) (i : Int) = (i : Int) := by
  have := h.cls2 hi
  simpa [cl] using this
theorem OA.clR (h : OA L k N F st Q) {n : Nat} (hn : n ≤ Q.length) : (rgI n).map (cl (clsF (oFin F Q) (oNx N (clsF F N) Q))) = rgI n := by
  apply List.ext_getElem
  · simp
  · intro i h1 h2
    have hi : i < n := by rw [rgI_len] at h2; exact h2
    rw [List.getElem_map]
    simp only [rgI, List.getElem_map, List.getElem_range]
    exact h.cl2 (by omega)
theorem rgI_has {n m : Nat} : (rgI n).contains (m : Int) = decide (m < n) := by
  rw [Bool.eq_iff_iff]
  simp only [rgI, List.contains_eq_mem, List.mem_map, List.mem_range, decide_eq_true_eq]
  constructor
  · rintro ⟨a, ha, e⟩; omega
  · intro hm; exact ⟨m, hm, rfl⟩
theorem OA.row2 (h : OA L k N F st Q) {i : Nat} (hi : i < Q.length) : ∀ a, a ≤ L → oRow (oNx N (clsF F N) Q) (clsF (oFin F Q) (oNx N (clsF F N) Q)) (rgI (oQ N (clsF F N) st i).length) i a = rgI (metO N (clsF F N) st Q i a)
  | 0, _ => by rw [oRow, metO_0]
  | a + 1, ha => by
    rw [oRow, OA.row2 h hi a (by omega)]
    obtain ⟨x, hx, hx1, hc⟩ := h.met hi (a := a) (by omega)
    obtain ⟨u, hu⟩ := h.row hi (a := a + 1) ha
    have hml : metO N (clsF F N) st Q i (a + 1) ≤ Q.length := by
      have := congrArg List.length hu
      rw [List.length_append] at this
      unfold metO; omega
    rw [hx]
    generalize metO N (clsF F N) st Q i a = m at *
    generalize metO N (clsF F N) st Q i (a + 1) = m' at *
    unfold oAdd
    by_cases h0 : x < 0
    · rw [if_pos (dead_neg h0)]
      rcases hc with ⟨_, q⟩ | ⟨q, _⟩
      · rw [q]
      · omega
    · obtain ⟨y, rfl⟩ := Int.eq_ofNat_of_zero_le (Int.not_lt.1 h0)
      have hy : y < Q.length := by rcases hc with ⟨q1, q2⟩ | ⟨q1, q2⟩ <;> omega
      have hcl := h.cl2 hy
      have hd : dead (clsF (oFin F Q) (oNx N (clsF F N) Q)) ((y : Nat) : Int) = false := dead_iff.2 ⟨by omega, by rw [hcl]; omega⟩
      rw [hd, if_neg (by simp), hcl, h.clR (by rcases hc with ⟨q1, q2⟩ | ⟨q1, q2⟩ <;> omega), rgI_has]
      rcases hc with ⟨q1, q2⟩ | ⟨q1, q2⟩
      · rw [decide_eq_true (by omega), if_pos rfl, q2]
      · rw [decide_eq_false (by omega), if_neg (by simp), q2, rgI_succ, q1]
theorem OA.q2 (h : OA L k N F st Q) : ∀ i, i ≤ Q.length → oQ (oNx N (clsF F N) Q) (clsF (oFin F Q) (oNx N (clsF F N) Q)) 0 i = rgI (oQ N (clsF F N) st i).length
  | 0, _ => rfl
  | i + 1, hi => by
    have ih := OA.q2 h i (by omega)
    have hlt := h.lt (i := i) (by omega)
    rw [oQ, ih, rgI_len, if_pos hlt, oStp, rgI_get hlt, Int.toNat_natCast, (h.ok2.get (by omega)).1, h.row2 (by omega) L (Nat.le_refl _), h.metN (by omega)]
end
def idxP {α : Type} (p : α → Bool) : List α → Nat → Int
  | [], _ => -1
  | x :: l, k => if p x = true then (k : Int) else idxP p l (k + 1)
theorem idxP_any {α : Type} (p : α → Bool) : ∀ (l : List α) (k : Nat), decide (idxP p l k ≥ 0) = l.any p
  | [], k => by simp [idxP]
  | x :: l, k => by
    rw [idxP]
    cases h : p x
    · simp only [Bool.false_eq_true, if_false, idxP_any p l (k + 1), List.any_cons, h, Bool.false_or]
    · simp [h]
theorem drop_getD {α : Type} {l : List α} {i : Nat} (h : i < l.length) (d : α) : l.drop i = l.getD i d :: l.drop (i + 1) := by
  rw [List.drop_eq_getElem_cons h]; simp [List.getD, List.getElem?_eq_getElem h]
theorem getD_mem {α : Type} {l : List α} {i : Nat} (h : i < l.length) (d : α) : l.getD i d ∈ l := by
  rw [List.getD, List.getElem?_eq_getElem h]; exact List.getElem_mem _
set_option maxHeartbeats 4000000 in
theorem c_IdxI (g : Nat) (row : List D) (hg : FnOk Try.prog g) (p : Int → Bool) (f : Bool) (l : List Int) (hl : l.length ≤ 100000) (hp : ∀ x ∈ l, Contract Try.prog g [i64 x, .ref row 0] (bo (p x)) []) :
    Contract Try.prog 92 [.sl f (ints l), .fn (.func g) 0 [.ref row 0]] (i64 (idxP p l 0)) [] := by
  refine contract_of_awp (rs := [4]) Try.func92 rfl Try.ntmps92 (by simp) rfl fun E => ?_
  (repeat (first | refine awp_seq ?_ | refine awp_block ?_ | ((first | refine awp_skip ?_ | refine awp_exit ?_ | refine awp_reg ttok ?_ | (refine awp_draw ttok ?dr_calm ?_; (case dr_calm => decide +kernel)) | refine awp_condM ?_); simp (maxSteps := 4000000) only [↓reduceIte, Nat.reduceLT, Nat.reduceEqDiff, reduceCtorEq, Nat.reduceAdd, Nat.reduceMul, Int.reduceLE, Int.reduceLT, Int.reduceToNat, Nat.reduceLeDiff, Nat.reduceSub, Int.reduceEq, Nat.reduceBEq, evB, tyA]; (repeat (with_reducible refine And.intro ?_ ?_; exact sdX)); (with_reducible first | refine awp_id ?_ | refine id_call ?_ | refine id_and ?_ | refine id_ex ?_ | refine id_all ?_ | refine id_nat ?_ | refine id_le ?_))))
  refine awp_loop (X := Nat) (fun i => mkS 19 [(0, .sl f (ints l)), (1, .fn (.func g) 0 [.ref row 0]), (7, i64 l.length), (8, i64 i)] []) (fun i => i ≤ l.length ∧ idxP p (l.drop i) i = idxP p l 0) (fun i => l.length - i) 0 ⟨by omega, rfl⟩ (mkS_le rfl ?_ trivial) ?_
  · simp (maxSteps := 4000000) only [↓reduceIte, Nat.reduceLT, Nat.reduceEqDiff, reduceCtorEq, Nat.reduceAdd, Nat.reduceMul, Int.reduceLE, Int.reduceLT, Int.reduceToNat, Nat.reduceLeDiff, Nat.reduceSub, Int.reduceEq, Nat.reduceBEq, evB]
    try rfl
  · rintro i ⟨hi, hq⟩
    by_cases hlt : i < l.length
    · have d1 : decide ((i : Int) < (l.length : Int)) = true := by simpa using hlt
      have gi := ints_get hlt
      have hpx := hp _ (getD_mem hlt 0)
      rw [drop_getD hlt 0, idxP] at hq
      generalize l.getD i 0 = x at gi hq hpx
      have hwi : IntKind.i64.wrap ((i : Int) + 1) = ((i + 1 : Nat) : Int) := i64_in (by omega) (by omega)
      (repeat (first | refine awp_seq ?_ | refine awp_block ?_ | ((first | refine awp_skip ?_ | refine awp_exit ?_ | refine awp_reg ttok ?_ | (refine awp_draw ttok ?dr_calm ?_; (case dr_calm => decide +kernel)) | refine awp_condM ?_); simp (maxSteps := 4000000) only [↓reduceIte, Nat.reduceLT, Nat.reduceEqDiff, reduceCtorEq, Nat.reduceAdd, Nat.reduceMul, Int.reduceLE, Int.reduceLT, Int.reduceToNat, Nat.reduceLeDiff, Nat.reduceSub, Int.reduceEq, Nat.reduceBEq, evB, tyA, d1, gi]; (repeat (with_reducible refine And.intro ?_ ?_; exact sdX)); (with_reducible first | refine awp_id ?_ | refine id_call ?_ | refine id_and ?_ | refine id_ex ?_ | refine id_all ?_ | refine id_nat ?_ | refine id_le ?_))))
      refine callVC_scal hg hpx rfl ?_
      cases he : p x
      · rw [he, if_neg (by simp)] at hq
        simp (maxSteps := 4000000) only [↓reduceIte, Nat.reduceLT, Nat.reduceEqDiff, reduceCtorEq, Nat.reduceAdd, Nat.reduceMul, Int.reduceLE, Int.reduceLT, Int.reduceToNat, Nat.reduceLeDiff, Nat.reduceSub, Int.reduceEq, Nat.reduceBEq, evB, tyA, he]
        (repeat (with_reducible refine And.intro ?_ ?_; exact sdX))
        (repeat (first | refine awp_seq ?_ | refine awp_block ?_ | ((first | refine awp_skip ?_ | refine awp_exit ?_ | refine awp_reg ttok ?_ | (refine awp_draw ttok ?dr_calm ?_; (case dr_calm => decide +kernel)) | refine awp_condM ?_); simp (maxSteps := 4000000) only [↓reduceIte, Nat.reduceLT, Nat.reduceEqDiff, reduceCtorEq, Nat.reduceAdd, Nat.reduceMul, Int.reduceLE, Int.reduceLT, Int.reduceToNat, Nat.reduceLeDiff, Nat.reduceSub, Int.reduceEq, Nat.reduceBEq, evB, tyA, he, hwi]; (repeat (with_reducible refine And.intro ?_ ?_; exact sdX)); (with_reducible first | refine awp_id ?_ | refine id_call ?_ | refine id_and ?_ | refine id_ex ?_ | refine id_all ?_ | refine id_nat ?_ | refine id_le ?_))))
        refine ⟨i + 1, ⟨by omega, hq⟩, by omega, mkS_le rfl ?_ trivial⟩
        simp (maxSteps := 4000000) only [↓reduceIte, Nat.reduceLT, Nat.reduceEqDiff, reduceCtorEq, Nat.reduceAdd, Nat.reduceMul, Int.reduceLE, Int.reduceLT, Int.reduceToNat, Nat.reduceLeDiff, Nat.reduceSub, Int.reduceEq, Nat.reduceBEq, evB]
      · rw [he, if_pos rfl] at hq
        simp (maxSteps := 4000000) only [↓reduceIte, Nat.reduceLT, Nat.reduceEqDiff, reduceCtorEq, Nat.reduceAdd, Nat.reduceMul, Int.reduceLE, Int.reduceLT, Int.reduceToNat, Nat.reduceLeDiff, Nat.reduceSub, Int.reduceEq, Nat.reduceBEq, evB, tyA, he]
        (repeat (with_reducible refine And.intro ?_ ?_; exact sdX))
        (repeat (first | refine awp_seq ?_ | refine awp_block ?_ | ((first | refine awp_skip ?_ | refine awp_exit ?_ | refine awp_reg ttok ?_ | (refine awp_draw ttok ?dr_calm ?_; (case dr_calm => decide +kernel)) | refine awp_condM ?_); simp (maxSteps := 4000000) only [↓reduceIte, Nat.reduceLT, Nat.reduceEqDiff, reduceCtorEq, Nat.reduceAdd, Nat.reduceMul, Int.reduceLE, Int.reduceLT, Int.reduceToNat, Nat.reduceLeDiff, Nat.reduceSub, Int.reduceEq, Nat.reduceBEq, evB, tyA, he]; (repeat (with_reducible refine And.intro ?_ ?_; exact sdX)); (with_reducible first | refine awp_id ?_ | refine id_call ?_ | refine id_and ?_ | refine id_ex ?_ | refine id_all ?_ | refine id_nat ?_ | refine id_le ?_))))
        exact awp_ret (ends_plain (.inr rfl) rfl (by simp (maxSteps := 4000000) only [↓reduceIte, Nat.reduceLT, Nat.reduceEqDiff, reduceCtorEq, Nat.reduceAdd, Nat.reduceMul, Int.reduceLE, Int.reduceLT, Int.reduceToNat, Nat.reduceLeDiff, Nat.reduceSub, Int.reduceEq, Nat.reduceBEq, evB, hq]))
    · have d1 : decide ((i : Int) < (l.length : Int)) = false := by simpa using hlt
      rw [List.drop_of_length_le (by omega)] at hq
      have hm : idxP p l 0 = -1 := by rw [← hq]; rfl
      (repeat (first | refine awp_seq ?_ | refine awp_block ?_ | ((first | refine awp_skip ?_ | refine awp_exit ?_ | refine awp_reg ttok ?_ | (refine awp_draw ttok ?dr_calm ?_; (case dr_calm => decide +kernel)) | refine awp_condM ?_); simp (maxSteps := 4000000) only [↓reduceIte, Nat.reduceLT, Nat.reduceEqDiff, reduceCtorEq, Nat.reduceAdd, Nat.reduceMul, Int.reduceLE, Int.reduceLT, Int.reduceToNat, Nat.reduceLeDiff, Nat.reduceSub, Int.reduceEq, Nat.reduceBEq, evB, tyA, d1]; (repeat (with_reducible refine And.intro ?_ ?_; exact sdX)); (with_reducible first | refine awp_id ?_ | refine id_call ?_ | refine id_and ?_ | refine id_ex ?_ | refine id_all ?_ | refine id_nat ?_ | refine id_le ?_))))
      exact awp_ret (ends_plain (.inr rfl) rfl (by simp (maxSteps := 4000000) only [↓reduceIte, Nat.reduceLT, Nat.reduceEqDiff, reduceCtorEq, Nat.reduceAdd, Nat.reduceMul, Int.reduceLE, Int.reduceLT, Int.reduceToNat, Nat.reduceLeDiff, Nat.reduceSub, Int.reduceEq, Nat.reduceBEq, evB, hm]))
theorem c_CtI (g : Nat) (row : List D) (hg : FnOk Try.prog g) (p : Int → Bool) (f : Bool) (l : List Int) (hl : l.length ≤ 100000) (hp : ∀ x ∈ l, Contract Try.prog g [i64 x, .ref row 0] (bo (p x)) []) :
    Contract Try.prog 79 [.sl f (ints l), .fn (.func g) 0 [.ref row 0]] (bo (l.any p)) [] := by
  refine contract_of_awp (rs := [4]) Try.func79 rfl Try.ntmps79 (by simp) rfl fun E => ?_
  have ha := idxP_any p l 0
  (repeat (first | refine awp_seq ?_ | refine awp_block ?_ | ((first | refine awp_skip ?_ | refine awp_exit ?_ | refine awp_reg ttok ?_ | (refine awp_draw ttok ?dr_calm ?_; (case dr_calm => decide +kernel)) | refine awp_condM ?_); simp (maxSteps := 4000000) only [↓reduceIte, Nat.reduceLT, Nat.reduceEqDiff, reduceCtorEq, Nat.reduceAdd, Nat.reduceMul, Int.reduceLE, Int.reduceLT, Int.reduceToNat, Nat.reduceLeDiff, Nat.reduceSub, Int.reduceEq, Nat.reduceBEq, evB, tyA]; (repeat (with_reducible refine And.intro ?_ ?_; exact sdX)); (with_reducible first | refine awp_id ?_ | refine id_call ?_ | refine id_and ?_ | refine id_ex ?_ | refine id_all ?_ | refine id_nat ?_ | refine id_le ?_))))
  refine callVC_scal fnok92 (c_IdxI g row hg p f l hl hp) rfl ?_
  simp (maxSteps := 4000000) only [↓reduceIte, Nat.reduceLT, Nat.reduceEqDiff, reduceCtorEq, Nat.reduceAdd, Nat.reduceMul, Int.reduceLE, Int.reduceLT, Int.reduceToNat, Nat.reduceLeDiff, Nat.reduceSub, Int.reduceEq, Nat.reduceBEq, evB, tyA, ha]
  (repeat (with_reducible refine And.intro ?_ ?_; exact sdX))
  (repeat (first | refine awp_seq ?_ | refine awp_block ?_ | ((first | refine awp_skip ?_ | refine awp_exit ?_ | refine awp_reg ttok ?_ | (refine awp_draw ttok ?dr_calm ?_; (case dr_calm => decide +kernel)) | refine awp_condM ?_); simp (maxSteps := 4000000) only [↓reduceIte, Nat.reduceLT, Nat.reduceEqDiff, reduceCtorEq, Nat.reduceAdd, Nat.reduceMul, Int.reduceLE, Int.reduceLT, Int.reduceToNat, Nat.reduceLeDiff, Nat.reduceSub, Int.reduceEq, Nat.reduceBEq, evB, tyA, ha]; (repeat (with_reducible refine And.intro ?_ ?_; exact sdX)); (with_reducible first | refine awp_id ?_ | refine id_call ?_ | refine id_and ?_ | refine id_ex ?_ | refine id_all ?_ | refine id_nat ?_ | refine id_le ?_))))
  exact awp_ret (ends_plain (.inr rfl) rfl evX)
set_option maxHeartbeats 4000000 in
theorem c_IdxII (g : Nat) (row : List D) (hg : FnOk Try.prog g) (p : List Int → Bool) (f : Bool) (l : List (List Int)) (hl : l.length ≤ 100000) (hp : ∀ x ∈ l, Contract Try.prog g [.sl false (ints x), .ref row 0] (bo (p x)) []) :
    Contract Try.prog 64 [.sl f (iis l), .fn (.func g) 0 [.ref row 0]] (i64 (idxP p l 0)) [] := by
  refine contract_of_awp (rs := [4]) Try.func64 rfl Try.ntmps64 (by simp) rfl fun E => ?_
  (repeat (first | refine awp_seq ?_ | refine awp_block ?_ | ((first | refine awp_skip ?_ | refine awp_exit ?_ | refine awp_reg ttok ?_ | (refine awp_draw ttok ?dr_calm ?_; (case dr_calm => decide +kernel)) | refine awp_condM ?_); simp (maxSteps := 4000000) only [↓reduceIte, Nat.reduceLT, Nat.reduceEqDiff, reduceCtorEq, Nat.reduceAdd, Nat.reduceMul, Int.reduceLE, Int.reduceLT, Int.reduceToNat, Nat.reduceLeDiff, Nat.reduceSub, Int.reduceEq, Nat.reduceBEq, evB, tyA, iis_len]; (repeat (with_reducible refine And.intro ?_ ?_; exact sdX)); (with_reducible first | refine awp_id ?_ | refine id_call ?_ | refine id_and ?_ | refine id_ex ?_ | refine id_all ?_ | refine id_nat ?_ | refine id_le ?_))))
  refine awp_loop (X := Nat) (fun i => mkS 19 [(0, .sl f (iis l)), (1, .fn (.func g) 0 [.ref row 0]), (7, i64 l.length), (8, i64 i)] []) (fun i => i ≤ l.length ∧ idxP p (l.drop i) i = idxP p l 0) (fun i => l.length - i) 0 ⟨by omega, rfl⟩ (mkS_le rfl ?_ trivial) ?_
  · simp (maxSteps := 4000000) only [↓reduceIte, Nat.reduceLT, Nat.reduceEqDiff, reduceCtorEq, Nat.reduceAdd, Nat.reduceMul, Int.reduceLE, Int.reduceLT, Int.reduceToNat, Nat.reduceLeDiff, Nat.reduceSub, Int.reduceEq, Nat.reduceBEq, evB]
    try rfl
  · rintro i ⟨hi, hq⟩
    by_cases hlt : i < l.length
    · have d1 : decide ((i : Int) < (l.length : Int)) = true := by simpa using hlt
      have gi := iis_get hlt
      have hpx := hp _ (getD_mem hlt [])
      rw [drop_getD hlt [], idxP] at hq
      generalize l.getD i [] = x at gi hq hpx
      have hwi : IntKind.i64.wrap ((i : Int) + 1) = ((i + 1 : Nat) : Int) := i64_in (by omega) (by omega)
      (repeat (first | refine awp_seq ?_ | refine awp_block ?_ | ((first | refine awp_skip ?_ | refine awp_exit ?_ | refine awp_reg ttok ?_ | (refine awp_draw ttok ?dr_calm ?_; (case dr_calm => decide +kernel)) | refine awp_condM ?_); simp (maxSteps := 4000000) only [↓reduceIte, Nat.reduceLT, Nat.reduceEqDiff, reduceCtorEq, Nat.reduceAdd, Nat.reduceMul, Int.reduceLE, Int.reduceLT, Int.reduceToNat, Nat.reduceLeDiff, Nat.reduceSub, Int.reduceEq, Nat.reduceBEq, evB, tyA, d1, gi, iis_len]; (repeat (with_reducible refine And.intro ?_ ?_; exact sdX)); (with_reducible first | refine awp_id ?_ | refine id_call ?_ | refine id_and ?_ | refine id_ex ?_ | refine id_all ?_ | refine id_nat ?_ | refine id_le ?_))))
      refine callVC_scal hg hpx rfl ?_
      cases he : p x
      · rw [he, if_neg (by simp)] at hq
        simp (maxSteps := 4000000) only [↓reduceIte, Nat.reduceLT, Nat.reduceEqDiff, reduceCtorEq, Nat.reduceAdd, Nat.reduceMul, Int.reduceLE, Int.reduceLT, Int.reduceToNat, Nat.reduceLeDiff, Nat.reduceSub, Int.reduceEq, Nat.reduceBEq, evB, tyA, he]
        (repeat (with_reducible refine And.intro ?_ ?_; exact sdX))
        (repeat (first | refine awp_seq ?_ | refine awp_block ?_ | ((first | refine awp_skip ?_ | refine awp_exit ?_ | refine awp_reg ttok ?_ | (refine awp_draw ttok ?dr_calm ?_; (case dr_calm => decide +kernel)) | refine awp_condM ?_); simp (maxSteps := 4000000) only [↓reduceIte, Nat.reduceLT, Nat.reduceEqDiff, reduceCtorEq, Nat.reduceAdd, Nat.reduceMul, Int.reduceLE, Int.reduceLT, Int.reduceToNat, Nat.reduceLeDiff, Nat.reduceSub, Int.reduceEq, Nat.reduceBEq, evB, tyA, he, hwi]; (repeat (with_reducible refine And.intro ?_ ?_; exact sdX)); (with_reducible first | refine awp_id ?_ | refine id_call ?_ | refine id_and ?_ | refine id_ex ?_ | refine id_all ?_ | refine id_nat ?_ | refine id_le ?_))))
        refine ⟨i + 1, ⟨by omega, hq⟩, by omega, mkS_le rfl ?_ trivial⟩
        simp (maxSteps := 4000000) only [↓reduceIte, Nat.reduceLT, Nat.reduceEqDiff, reduceCtorEq, Nat.reduceAdd, Nat.reduceMul, Int.reduceLE, Int.reduceLT, Int.reduceToNat, Nat.reduceLeDiff, Nat.reduceSub, Int.reduceEq, Nat.reduceBEq, evB]
      · rw [he, if_pos rfl] at hq
        simp (maxSteps := 4000000) only [↓reduceIte, Nat.reduceLT, Nat.reduceEqDiff, reduceCtorEq, Nat.reduceAdd, Nat.reduceMul, Int.reduceLE, Int.reduceLT, Int.reduceToNat, Nat.reduceLeDiff, Nat.reduceSub, Int.reduceEq, Nat.reduceBEq, evB, tyA, he]
        (repeat (with_reducible refine And.intro ?_ ?_; exact sdX))
        (repeat (first | refine awp_seq ?_ | refine awp_block ?_ | ((first | refine awp_skip ?_ | refine awp_exit ?_ | refine awp_reg ttok ?_ | (refine awp_draw ttok ?dr_calm ?_; (case dr_calm => decide +kernel)) | refine awp_condM ?_); simp (maxSteps := 4000000) only [↓reduceIte, Nat.reduceLT, Nat.reduceEqDiff, reduceCtorEq, Nat.reduceAdd, Nat.reduceMul, Int.reduceLE, Int.reduceLT, Int.reduceToNat, Nat.reduceLeDiff, Nat.reduceSub, Int.reduceEq, Nat.reduceBEq, evB, tyA, he]; (repeat (with_reducible refine And.intro ?_ ?_; exact sdX)); (with_reducible first | refine awp_id ?_ | refine id_call ?_ | refine id_and ?_ | refine id_ex ?_ | refine id_all ?_ | refine id_nat ?_ | refine id_le ?_))))
        exact awp_ret (ends_plain (.inr rfl) rfl (by simp (maxSteps := 4000000) only [↓reduceIte, Nat.reduceLT, Nat.reduceEqDiff, reduceCtorEq, Nat.reduceAdd, Nat.reduceMul, Int.reduceLE, Int.reduceLT, Int.reduceToNat, Nat.reduceLeDiff, Nat.reduceSub, Int.reduceEq, Nat.reduceBEq, evB, hq]))
    · have d1 : decide ((i : Int) < (l.length : Int)) = false := by simpa using hlt
      rw [List.drop_of_length_le (by omega)] at hq
      have hm : idxP p l 0 = -1 := by rw [← hq]; rfl
      (repeat (first | refine awp_seq ?_ | refine awp_block ?_ | ((first | refine awp_skip ?_ | refine awp_exit ?_ | refine awp_reg ttok ?_ | (refine awp_draw ttok ?dr_calm ?_; (case dr_calm => decide +kernel)) | refine awp_condM ?_); simp (maxSteps := 4000000) only [↓reduceIte, Nat.reduceLT, Nat.reduceEqDiff, reduceCtorEq, Nat.reduceAdd, Nat.reduceMul, Int.reduceLE, Int.reduceLT, Int.reduceToNat, Nat.reduceLeDiff, Nat.reduceSub, Int.reduceEq, Nat.reduceBEq, evB, tyA, d1]; (repeat (with_reducible refine And.intro ?_ ?_; exact sdX)); (with_reducible first | refine awp_id ?_ | refine id_call ?_ | refine id_and ?_ | refine id_ex ?_ | refine id_all ?_ | refine id_nat ?_ | refine id_le ?_))))
      exact awp_ret (ends_plain (.inr rfl) rfl (by simp (maxSteps := 4000000) only [↓reduceIte, Nat.reduceLT, Nat.reduceEqDiff, reduceCtorEq, Nat.reduceAdd, Nat.reduceMul, Int.reduceLE, Int.reduceLT, Int.reduceToNat, Nat.reduceLeDiff, Nat.reduceSub, Int.reduceEq, Nat.reduceBEq, evB, hm]))
theorem c_CtII (g : Nat) (row : List D) (hg : FnOk Try.prog g) (p : List Int → Bool) (f : Bool) (l : List (List Int)) (hl : l.length ≤ 100000) (hp : ∀ x ∈ l, Contract Try.prog g [.sl false (ints x), .ref row 0] (bo (p x)) []) :
    Contract Try.prog 67 [.sl f (iis l), .fn (.func g) 0 [.ref row 0]] (bo (l.any p)) [] := by
  refine contract_of_awp (rs := [4]) Try.func67 rfl Try.ntmps67 (by simp) rfl fun E => ?_
  have ha := idxP_any p l 0
  (repeat (first | refine awp_seq ?_ | refine awp_block ?_ | ((first | refine awp_skip ?_ | refine awp_exit ?_ | refine awp_reg ttok ?_ | (refine awp_draw ttok ?dr_calm ?_; (case dr_calm => decide +kernel)) | refine awp_condM ?_); simp (maxSteps := 4000000) only [↓reduceIte, Nat.reduceLT, Nat.reduceEqDiff, reduceCtorEq, Nat.reduceAdd, Nat.reduceMul, Int.reduceLE, Int.reduceLT, Int.reduceToNat, Nat.reduceLeDiff, Nat.reduceSub, Int.reduceEq, Nat.reduceBEq, evB, tyA]; (repeat (with_reducible refine And.intro ?_ ?_; exact sdX)); (with_reducible first | refine awp_id ?_ | refine id_call ?_ | refine id_and ?_ | refine id_ex ?_ | refine id_all ?_ | refine id_nat ?_ | refine id_le ?_))))
  refine callVC_scal fnok64 (c_IdxII g row hg p f l hl hp) rfl ?_
  simp (maxSteps := 4000000) only [↓reduceIte, Nat.reduceLT, Nat.reduceEqDiff, reduceCtorEq, Nat.reduceAdd, Nat.reduceMul, Int.reduceLE, Int.reduceLT, Int.reduceToNat, Nat.reduceLeDiff, Nat.reduceSub, Int.reduceEq, Nat.reduceBEq, evB, tyA, ha]
  (repeat (with_reducible refine And.intro ?_ ?_; exact sdX))
  (repeat (first | refine awp_seq ?_ | refine awp_block ?_ | ((first | refine awp_skip ?_ | refine awp_exit ?_ | refine awp_reg ttok ?_ | (refine awp_draw ttok ?dr_calm ?_; (case dr_calm => decide +kernel)) | refine awp_condM ?_); simp (maxSteps := 4000000) only [↓reduceIte, Nat.reduceLT, Nat.reduceEqDiff, reduceCtorEq, Nat.reduceAdd, Nat.reduceMul, Int.reduceLE, Int.reduceLT, Int.reduceToNat, Nat.reduceLeDiff, Nat.reduceSub, Int.reduceEq, Nat.reduceBEq, evB, tyA, ha]; (repeat (with_reducible refine And.intro ?_ ?_; exact sdX)); (with_reducible first | refine awp_id ?_ | refine id_call ?_ | refine id_and ?_ | refine id_ex ?_ | refine id_all ?_ | refine id_nat ?_ | refine id_le ?_))))
  exact awp_ret (ends_plain (.inr rfl) rfl evX)
abbrev dfaR (L s : Nat) (F : List Bool) (N : List (List Int)) : List D := [i64 L, i64 s, .sl false (bos F), .sl false (iis N)]
theorem c_May11 (L st : Nat) (F : List Bool) (N : List (List Int)) (n : Int) : Contract Try.prog 80 [i64 n, .ref (dfaR L st F N) 0] (bo (decide (n < -1) || decide (n ≥ (N.length : Int)))) [] := by
  refine contract_of_awp (rs := [3]) Try.func80 rfl Try.ntmps80 (by simp) rfl fun E => ?_
  cases k1 : decide (n < -1)
  · (repeat (first | refine awp_seq ?_ | refine awp_block ?_ | ((first | refine awp_skip ?_ | refine awp_exit ?_ | refine awp_reg ttok ?_ | (refine awp_draw ttok ?dr_calm ?_; (case dr_calm => decide +kernel)) | refine awp_condM ?_); simp (maxSteps := 4000000) only [↓reduceIte, Nat.reduceLT, Nat.reduceEqDiff, reduceCtorEq, Nat.reduceAdd, Nat.reduceMul, Int.reduceLE, Int.reduceLT, Int.reduceToNat, Nat.reduceLeDiff, Nat.reduceSub, Int.reduceEq, Nat.reduceBEq, evB, tyA, dfaR, k1, iis_len]; (repeat (with_reducible refine And.intro ?_ ?_; exact sdX)); (with_reducible first | refine awp_id ?_ | refine id_call ?_ | refine id_and ?_ | refine id_ex ?_ | refine id_all ?_ | refine id_nat ?_ | refine id_le ?_))))
    exact awp_ret (ends_plain (.inr rfl) rfl (by simp (maxSteps := 4000000) only [↓reduceIte, Nat.reduceLT, Nat.reduceEqDiff, reduceCtorEq, Nat.reduceAdd, Nat.reduceMul, Int.reduceLE, Int.reduceLT, Int.reduceToNat, Nat.reduceLeDiff, Nat.reduceSub, Int.reduceEq, Nat.reduceBEq, evB, Bool.false_or]))
  · (repeat (first | refine awp_seq ?_ | refine awp_block ?_ | ((first | refine awp_skip ?_ | refine awp_exit ?_ | refine awp_reg ttok ?_ | (refine awp_draw ttok ?dr_calm ?_; (case dr_calm => decide +kernel)) | refine awp_condM ?_); simp (maxSteps := 4000000) only [↓reduceIte, Nat.reduceLT, Nat.reduceEqDiff, reduceCtorEq, Nat.reduceAdd, Nat.reduceMul, Int.reduceLE, Int.reduceLT, Int.reduceToNat, Nat.reduceLeDiff, Nat.reduceSub, Int.reduceEq, Nat.reduceBEq, evB, tyA, k1]; (repeat (with_reducible refine And.intro ?_ ?_; exact sdX)); (with_reducible first | refine awp_id ?_ | refine id_call ?_ | refine id_and ?_ | refine id_ex ?_ | refine id_all ?_ | refine id_nat ?_ | refine id_le ?_))))
    exact awp_ret (ends_plain (.inr rfl) rfl (by simp (maxSteps := 4000000) only [↓reduceIte, Nat.reduceLT, Nat.reduceEqDiff, reduceCtorEq, Nat.reduceAdd, Nat.reduceMul, Int.reduceLE, Int.reduceLT, Int.reduceToNat, Nat.reduceLeDiff, Nat.reduceSub, Int.reduceEq, Nat.reduceBEq, evB, Bool.true_or]))
theorem c_May1 {L k : Nat} {N : List (List Int)} (h : NOk L k N) (hL : L ≤ 100000) (st : Nat) (F : List Bool) (x : List Int) (hx : x ∈ N) : Contract Try.prog 78 [.sl false (ints x), .ref (dfaR L st F N) 0] (bo false) [] := by
  refine contract_of_awp (rs := [3]) Try.func78 rfl Try.ntmps78 (by simp) rfl fun E => ?_
  obtain ⟨h1, h2⟩ := h.row x hx
  have hl := h.len
  have e1 : ((L : Int) != (L : Int)) = false := by simp
  have ha : (x.any fun n => decide (n < -1) || decide (n ≥ (N.length : Int))) = false := by
    rw [List.any_eq_false]
    intro n hn
    have := h2 n hn
    simp only [Bool.or_eq_true, decide_eq_true_eq, not_or]
    omega
  (repeat (first | refine awp_seq ?_ | refine awp_block ?_ | ((first | refine awp_skip ?_ | refine awp_exit ?_ | refine awp_reg ttok ?_ | (refine awp_draw ttok ?dr_calm ?_; (case dr_calm => decide +kernel)) | refine awp_condM ?_); simp (maxSteps := 4000000) only [↓reduceIte, Nat.reduceLT, Nat.reduceEqDiff, reduceCtorEq, Nat.reduceAdd, Nat.reduceMul, Int.reduceLE, Int.reduceLT, Int.reduceToNat, Nat.reduceLeDiff, Nat.reduceSub, Int.reduceEq, Nat.reduceBEq, evB, tyA, dfaR, ints_len, h1, e1]; (repeat (with_reducible refine And.intro ?_ ?_; exact sdX)); (with_reducible first | refine awp_id ?_ | refine id_call ?_ | refine id_and ?_ | refine id_ex ?_ | refine id_all ?_ | refine id_nat ?_ | refine id_le ?_))))
  refine callVC_scal fnok79 (c_CtI _ (dfaR L st F N) fnok80 _ false x (by omega) fun n _ => c_May11 L st F N n) rfl ?_
  simp (maxSteps := 4000000) only [↓reduceIte, Nat.reduceLT, Nat.reduceEqDiff, reduceCtorEq, Nat.reduceAdd, Nat.reduceMul, Int.reduceLE, Int.reduceLT, Int.reduceToNat, Nat.reduceLeDiff, Nat.reduceSub, Int.reduceEq, Nat.reduceBEq, evB, tyA, ha]
  (repeat (with_reducible refine And.intro ?_ ?_; exact sdX))
  (repeat (first | refine awp_seq ?_ | refine awp_block ?_ | ((first | refine awp_skip ?_ | refine awp_exit ?_ | refine awp_reg ttok ?_ | (refine awp_draw ttok ?dr_calm ?_; (case dr_calm => decide +kernel)) | refine awp_condM ?_); simp (maxSteps := 4000000) only [↓reduceIte, Nat.reduceLT, Nat.reduceEqDiff, reduceCtorEq, Nat.reduceAdd, Nat.reduceMul, Int.reduceLE, Int.reduceLT, Int.reduceToNat, Nat.reduceLeDiff, Nat.reduceSub, Int.reduceEq, Nat.reduceBEq, evB, tyA, ha]; (repeat (with_reducible refine And.intro ?_ ?_; exact sdX)); (with_reducible first | refine awp_id ?_ | refine id_call ?_ | refine id_and ?_ | refine id_ex ?_ | refine id_all ?_ | refine id_nat ?_ | refine id_le ?_))))
  exact awp_ret (ends_plain (.inr rfl) rfl evX)
set_option maxRecDepth 20000 in
set_option maxHeartbeats 16000000 in
theorem c_May {L k : Nat} {N : List (List Int)} (h : NOk L k N) (st : Nat) (hst : st < k) (F : List Bool) (hF : F.length = k) (hL : L ≤ 100000) (hk : 1 ≤ k ∧ k ≤ 2000) : Contract Try.prog 53 [dfaD L st F N] (bo true) [] := by
  refine contract_of_awp (rs := [2]) Try.func53 rfl Try.ntmps53 (by simp) rfl fun E => ?_
  have hl := h.len
  have d1 : decide ((L : Int) < 0) = false := by simp
  have d2 : ((k : Int) != (k : Int)) = false := by simp
  have d3 : decide ((k : Int) < 1) = false := by simp; omega
  have d4 : decide ((k : Int) > 2000) = false := by simp; omega
  have d5 : decide ((st : Int) < 0) = false := by simp
  have d6 : decide ((st : Int) ≥ (k : Int)) = false := by simp; omega
  have ha : (N.any fun _ => false) = false := by simp
  (repeat (first | refine awp_seq ?_ | refine awp_block ?_ | ((first | refine awp_skip ?_ | refine awp_exit ?_ | refine awp_reg ttok ?_ | (refine awp_draw ttok ?dr_calm ?_; (case dr_calm => decide +kernel)) | refine awp_condM ?_); simp (maxSteps := 4000000) only [↓reduceIte, Nat.reduceLT, Nat.reduceEqDiff, reduceCtorEq, Nat.reduceAdd, Nat.reduceMul, Int.reduceLE, Int.reduceLT, Int.reduceToNat, Nat.reduceLeDiff, Nat.reduceSub, Int.reduceEq, Nat.reduceBEq, evB, tyA, dfaD, d1, bos_len, iis_len, hl, hF, d2, d3, d4, d5, d6]; (repeat (with_reducible refine And.intro ?_ ?_; exact sdX)); (with_reducible first | refine awp_id ?_ | refine id_call ?_ | refine id_and ?_ | refine id_ex ?_ | refine id_all ?_ | refine id_nat ?_ | refine id_le ?_))))
  refine callVC_scal fnok67 (c_CtII _ (dfaR L st F N) fnok78 (fun _ => false) false N (by omega) fun x hx => c_May1 h hL st F x hx) rfl ?_
  simp (maxSteps := 4000000) only [↓reduceIte, Nat.reduceLT, Nat.reduceEqDiff, reduceCtorEq, Nat.reduceAdd, Nat.reduceMul, Int.reduceLE, Int.reduceLT, Int.reduceToNat, Nat.reduceLeDiff, Nat.reduceSub, Int.reduceEq, Nat.reduceBEq, evB, tyA, ha]
  (repeat (with_reducible refine And.intro ?_ ?_; exact sdX))
  (repeat (first | refine awp_seq ?_ | refine awp_block ?_ | ((first | refine awp_skip ?_ | refine awp_exit ?_ | refine awp_reg ttok ?_ | (refine awp_draw ttok ?dr_calm ?_; (case dr_calm => decide +kernel)) | refine awp_condM ?_); simp (maxSteps := 4000000) only [↓reduceIte, Nat.reduceLT, Nat.reduceEqDiff, reduceCtorEq, Nat.reduceAdd, Nat.reduceMul, Int.reduceLE, Int.reduceLT, Int.reduceToNat, Nat.reduceLeDiff, Nat.reduceSub, Int.reduceEq, Nat.reduceBEq, evB, tyA, ha]; (repeat (with_reducible refine And.intro ?_ ?_; exact sdX)); (with_reducible first | refine awp_id ?_ | refine id_call ?_ | refine id_and ?_ | refine id_ex ?_ | refine id_all ?_ | refine id_nat ?_ | refine id_le ?_))))
  exact awp_ret (ends_plain (.inr rfl) rfl evX)
theorem c_CloneBo (full : Bool) (l : List Bool) (hl : l.length ≤ 100000) (hne : l ≠ []) : Contract Try.prog 81 [.sl full (bos l)] (.own 0 0 l.length) [{ sz := 1, rows := bos l }] := by
  refine contract_of_awp (rs := [2]) Try.func81 rfl Try.ntmps81 (by simp) rfl fun E => ?_
  (repeat (first | refine awp_seq ?_ | refine awp_block ?_ | ((first | refine awp_skip ?_ | refine awp_exit ?_ | refine awp_reg ttok ?_ | (refine awp_draw ttok ?dr_calm ?_; (case dr_calm => decide +kernel)) | refine awp_condM ?_); simp (maxSteps := 4000000) only [↓reduceIte, Nat.reduceLT, Nat.reduceEqDiff, reduceCtorEq, Nat.reduceAdd, Nat.reduceMul, Int.reduceLE, Int.reduceLT, Int.reduceToNat, Nat.reduceLeDiff, Nat.reduceSub, Int.reduceEq, Nat.reduceBEq, evB, tyA, bos_len, bos_row]; (repeat (with_reducible refine And.intro ?_ ?_; exact sdX)); (with_reducible first | refine awp_id ?_ | refine id_call ?_ | refine id_and ?_ | refine id_ex ?_ | refine id_all ?_ | refine id_nat ?_ | refine id_le ?_))))
  intro b hb
  refine awp_cond (t := (b != false)) ?_ (fun h => ?_) (fun h => ?_)
  · exact evX
  · exfalso
    have := hb (by simpa using h)
    rw [bos_nil] at this
    exact hne this
  · (repeat (first | refine awp_seq ?_ | refine awp_block ?_ | ((first | refine awp_skip ?_ | refine awp_exit ?_ | refine awp_reg ttok ?_ | (refine awp_draw ttok ?dr_calm ?_; (case dr_calm => decide +kernel)) | refine awp_condM ?_); simp (maxSteps := 4000000) only [↓reduceIte, Nat.reduceLT, Nat.reduceEqDiff, reduceCtorEq, Nat.reduceAdd, Nat.reduceMul, Int.reduceLE, Int.reduceLT, Int.reduceToNat, Nat.reduceLeDiff, Nat.reduceSub, Int.reduceEq, Nat.reduceBEq, evB, tyA, bos_len, bos_row]; (repeat (with_reducible refine And.intro ?_ ?_; exact sdX)); (with_reducible first | refine awp_id ?_ | refine id_call ?_ | refine id_and ?_ | refine id_ex ?_ | refine id_all ?_ | refine id_nat ?_ | refine id_le ?_))))
    exact awp_ret (ends_own (g := 4000) (.inr rfl) (by simp (maxSteps := 4000000) only [↓reduceIte, Nat.reduceLT, Nat.reduceEqDiff, reduceCtorEq, Nat.reduceAdd, Nat.reduceMul, Int.reduceLE, Int.reduceLT, Int.reduceToNat, Nat.reduceLeDiff, Nat.reduceSub, Int.reduceEq, Nat.reduceBEq, evB, bos_len]) evX rfl)
theorem c_Live1 (o : List Bool) (s : Int) (hs : s < (o.length : Int)) : Contract Try.prog 97 [i64 s, .ref [.sl false (bos o)] 0] (bo (decide (s ≥ 0) && o.getD s.toNat false)) [] := by
  refine contract_of_awp (rs := [3]) Try.func97 rfl Try.ntmps97 (by simp) rfl fun E => ?_
  by_cases h0 : s ≥ 0
  · have d1 : decide (s ≥ 0) = true := by simpa using h0
    obtain ⟨y, rfl⟩ := Int.eq_ofNat_of_zero_le h0
    have hg := bos_get (l := o) (i := y) (by omega)
    (repeat (first | refine awp_seq ?_ | refine awp_block ?_ | ((first | refine awp_skip ?_ | refine awp_exit ?_ | refine awp_reg ttok ?_ | (refine awp_draw ttok ?dr_calm ?_; (case dr_calm => decide +kernel)) | refine awp_condM ?_); simp (maxSteps := 4000000) only [↓reduceIte, Nat.reduceLT, Nat.reduceEqDiff, reduceCtorEq, Nat.reduceAdd, Nat.reduceMul, Int.reduceLE, Int.reduceLT, Int.reduceToNat, Nat.reduceLeDiff, Nat.reduceSub, Int.reduceEq, Nat.reduceBEq, evB, tyA, d1, hg, bos_len]; (repeat (with_reducible refine And.intro ?_ ?_; exact sdX)); (with_reducible first | refine awp_id ?_ | refine id_call ?_ | refine id_and ?_ | refine id_ex ?_ | refine id_all ?_ | refine id_nat ?_ | refine id_le ?_))))
    exact awp_ret (ends_plain (.inr rfl) rfl (by simp (maxSteps := 4000000) only [↓reduceIte, Nat.reduceLT, Nat.reduceEqDiff, reduceCtorEq, Nat.reduceAdd, Nat.reduceMul, Int.reduceLE, Int.reduceLT, Int.reduceToNat, Nat.reduceLeDiff, Nat.reduceSub, Int.reduceEq, Nat.reduceBEq, evB, d1, Bool.true_and, Int.toNat_natCast]))
  · have d1 : decide (s ≥ 0) = false := by simpa using h0
    (repeat (first | refine awp_seq ?_ | refine awp_block ?_ | ((first | refine awp_skip ?_ | refine awp_exit ?_ | refine awp_reg ttok ?_ | (refine awp_draw ttok ?dr_calm ?_; (case dr_calm => decide +kernel)) | refine awp_condM ?_); simp (maxSteps := 4000000) only [↓reduceIte, Nat.reduceLT, Nat.reduceEqDiff, reduceCtorEq, Nat.reduceAdd, Nat.reduceMul, Int.reduceLE, Int.reduceLT, Int.reduceToNat, Nat.reduceLeDiff, Nat.reduceSub, Int.reduceEq, Nat.reduceBEq, evB, tyA, d1]; (repeat (with_reducible refine And.intro ?_ ?_; exact sdX)); (with_reducible first | refine awp_id ?_ | refine id_call ?_ | refine id_and ?_ | refine id_ex ?_ | refine id_all ?_ | refine id_nat ?_ | refine id_le ?_))))
    exact awp_ret (ends_plain (.inr rfl) rfl (by simp (maxSteps := 4000000) only [↓reduceIte, Nat.reduceLT, Nat.reduceEqDiff, reduceCtorEq, Nat.reduceAdd, Nat.reduceMul, Int.reduceLE, Int.reduceLT, Int.reduceToNat, Nat.reduceLeDiff, Nat.reduceSub, Int.reduceEq, Nat.reduceBEq, evB, d1, Bool.false_and]))
theorem swp_same {N : List (List Int)} {o : List Bool} {i : Nat} (h : (!(swpS N o i).getD i false && (N.getD i []).any fun s => decide (s ≥ 0) && (swpS N o i).getD s.toNat false) = false) (hi : i < o.length) : swpS N o (i + 1) = swpS N o i := by
  have hl := swpS_len N o i
  rw [swpS]
  generalize swpS N o i = p at *
  unfold swp1
  split
  · rename_i ha
    rw [ha, Bool.and_true, Bool.not_eq_false'] at h
    apply List.ext_getElem (by simp)
    intro j h1 h2
    rw [List.getElem_set]
    split
    · rename_i e; subst e
      simpa [List.getD, List.getElem?_eq_getElem h2] using h.symm
    · rfl
  · rfl
theorem swp_turn {N : List (List Int)} {o : List Bool} {i : Nat} (h : (!(swpS N o i).getD i false && (N.getD i []).any fun s => decide (s ≥ 0) && (swpS N o i).getD s.toNat false) = true) (hi : i < o.length) : swpS N o (i + 1) = (swpS N o i).set i true ∧ (swpS N o (i + 1) == o) = false := by
  have hl := swpS_len N o i
  have hb := (swpS_ble N o i).2 i
  rw [swpS]
  generalize swpS N o i = p at *
  rw [Bool.and_eq_true] at h
  have e : swp1 N p i = p.set i true := by unfold swp1; rw [if_pos h.2]
  refine ⟨e, ?_⟩
  rw [e, beq_eq_false_iff_ne]
  intro q
  have h1 := h.1
  have : o.getD i false = true := by
    rw [← q]; simp [List.getD, List.getElem?_set, show i < p.length by omega]
  rw [hb this] at h1
  cases h1
set_option maxRecDepth 20000 in
set_option maxHeartbeats 16000000 in
theorem c_MLive {L k : Nat} {N : List (List Int)} (h : NOk L k N) (st : Nat) (hst : st < k) (F : List Bool) (hF : F.length = k) (hL : L ≤ 100000) (hk : 1 ≤ k ∧ k ≤ 2000) :
    Contract Try.prog 90 [dfaD L st F N] (.sl false (bos (liveL F N))) [] := by
  refine contract_of_awp (rs := [2]) Try.func90 rfl Try.ntmps90 (by simp) rfl fun E => ?_
  have hl := h.len
  (repeat (first | refine awp_seq ?_ | refine awp_block ?_ | ((first | refine awp_skip ?_ | refine awp_exit ?_ | refine awp_reg ttok ?_ | (refine awp_draw ttok ?dr_calm ?_; (case dr_calm => decide +kernel)) | refine awp_condM ?_); simp (maxSteps := 4000000) only [↓reduceIte, Nat.reduceLT, Nat.reduceEqDiff, reduceCtorEq, Nat.reduceAdd, Nat.reduceMul, Int.reduceLE, Int.reduceLT, Int.reduceToNat, Nat.reduceLeDiff, Nat.reduceSub, Int.reduceEq, Nat.reduceBEq, evB, tyA, dfaD]; (repeat (with_reducible refine And.intro ?_ ?_; exact sdX)); (with_reducible first | refine awp_id ?_ | refine id_call ?_ | refine id_and ?_ | refine id_ex ?_ | refine id_all ?_ | refine id_nat ?_ | refine id_le ?_))))
  refine callVC_scal fnok53 (c_May h st hst F hF hL hk) rfl ?_
  simp (maxSteps := 4000000) only [↓reduceIte, Nat.reduceLT, Nat.reduceEqDiff, reduceCtorEq, Nat.reduceAdd, Nat.reduceMul, Int.reduceLE, Int.reduceLT, Int.reduceToNat, Nat.reduceLeDiff, Nat.reduceSub, Int.reduceEq, Nat.reduceBEq, evB, tyA]
  (repeat (with_reducible refine And.intro ?_ ?_; exact sdX))
  (repeat (first | refine awp_seq ?_ | refine awp_block ?_ | ((first | refine awp_skip ?_ | refine awp_exit ?_ | refine awp_reg ttok ?_ | (refine awp_draw ttok ?dr_calm ?_; (case dr_calm => decide +kernel)) | refine awp_condM ?_); simp (maxSteps := 4000000) only [↓reduceIte, Nat.reduceLT, Nat.reduceEqDiff, reduceCtorEq, Nat.reduceAdd, Nat.reduceMul, Int.reduceLE, Int.reduceLT, Int.reduceToNat, Nat.reduceLeDiff, Nat.reduceSub, Int.reduceEq, Nat.reduceBEq, evB, tyA]; (repeat (with_reducible refine And.intro ?_ ?_; exact sdX)); (with_reducible first | refine awp_id ?_ | refine id_call ?_ | refine id_and ?_ | refine id_ex ?_ | refine id_all ?_ | refine id_nat ?_ | refine id_le ?_))))
  have hne : F ≠ [] := by rintro rfl; simp at hF; omega
  refine callVC_mk fnok81 (c_CloneBo false F (by omega) hne) rfl ?_
  simp (maxSteps := 4000000) only [↓reduceIte, Nat.reduceLT, Nat.reduceEqDiff, reduceCtorEq, Nat.reduceAdd, Nat.reduceMul, Int.reduceLE, Int.reduceLT, Int.reduceToNat, Nat.reduceLeDiff, Nat.reduceSub, Int.reduceEq, Nat.reduceBEq, evB, tyA, hF]
  (repeat (with_reducible refine And.intro ?_ ?_; exact sdX))
  (repeat (first | refine awp_seq ?_ | refine awp_block ?_ | ((first | refine awp_skip ?_ | refine awp_exit ?_ | refine awp_reg ttok ?_ | (refine awp_draw ttok ?dr_calm ?_; (case dr_calm => decide +kernel)) | refine awp_condM ?_); simp (maxSteps := 4000000) only [↓reduceIte, Nat.reduceLT, Nat.reduceEqDiff, reduceCtorEq, Nat.reduceAdd, Nat.reduceMul, Int.reduceLE, Int.reduceLT, Int.reduceToNat, Nat.reduceLeDiff, Nat.reduceSub, Int.reduceEq, Nat.reduceBEq, evB, tyA]; (repeat (with_reducible refine And.intro ?_ ?_; exact sdX)); (with_reducible first | refine awp_id ?_ | refine id_call ?_ | refine id_and ?_ | refine id_ex ?_ | refine id_all ?_ | refine id_nat ?_ | refine id_le ?_))))
  refine awp_loop (X := Nat × Bool) (fun x => mkS 37 [(1, .ptr 1000 0 0), (3, .ptr 4003 0 0), (4, bo x.2)] [(1000, { sz := 4, rows := [[i64 L, i64 st, .sl false (bos F), .sl false (iis N)]], flat := false }), (4003, { sz := 1, rows := [[.own 104002 0 k]], flat := false }), (104002, { sz := 1, rows := bos (swpI N F x.1) })])
    (fun x => x.2 = false → swp N (swpI N F x.1) = swpI N F x.1) (fun x => 2 * (k - (swpI N F x.1).count true) + x.2.toNat) (0, true) (by simp) (mkS_le rfl ?_ ?_) ?_
  · simp (maxSteps := 4000000) only [↓reduceIte, Nat.reduceLT, Nat.reduceEqDiff, reduceCtorEq, Nat.reduceAdd, Nat.reduceMul, Int.reduceLE, Int.reduceLT, Int.reduceToNat, Nat.reduceLeDiff, Nat.reduceSub, Int.reduceEq, Nat.reduceBEq, evB]
    try rfl
  · simp (maxSteps := 4000000) only [↓reduceIte, Nat.reduceLT, Nat.reduceEqDiff, reduceCtorEq, Nat.reduceAdd, Nat.reduceMul, Int.reduceLE, Int.reduceLT, Int.reduceToNat, Nat.reduceLeDiff, Nat.reduceSub, Int.reduceEq, Nat.reduceBEq, evB, swpI]
    try rfl
  · rintro ⟨r, more⟩ hinv
    simp only at hinv ⊢
    have hoL := swpI_len N F r
    have hob := swp_ble N (swpI N F r)
    have hnx : swpI N F (r + 1) = swp N (swpI N F r) := rfl
    cases more
    · have hfin := liveL_of (hinv rfl)
      (repeat (first | refine awp_seq ?_ | refine awp_block ?_ | ((first | refine awp_skip ?_ | refine awp_exit ?_ | refine awp_reg ttok ?_ | (refine awp_draw ttok ?dr_calm ?_; (case dr_calm => decide +kernel)) | refine awp_condM ?_); simp (maxSteps := 4000000) only [↓reduceIte, Nat.reduceLT, Nat.reduceEqDiff, reduceCtorEq, Nat.reduceAdd, Nat.reduceMul, Int.reduceLE, Int.reduceLT, Int.reduceToNat, Nat.reduceLeDiff, Nat.reduceSub, Int.reduceEq, Nat.reduceBEq, evB, tyA]; (repeat (with_reducible refine And.intro ?_ ?_; exact sdX)); (with_reducible first | refine awp_id ?_ | refine id_call ?_ | refine id_and ?_ | refine id_ex ?_ | refine id_all ?_ | refine id_nat ?_ | refine id_le ?_))))
      rw [hfin] at hoL ⊢
      have htk : List.take k (liveL F N) = liveL F N := List.take_of_length_le (by omega)
      refine awp_pure 2 (d := .own 104002 0 k) evX (by simp (maxSteps := 4000000) only [↓reduceIte, Nat.reduceLT, Nat.reduceEqDiff, reduceCtorEq, Nat.reduceAdd, Nat.reduceMul, Int.reduceLE, Int.reduceLT, Int.reduceToNat, Nat.reduceLeDiff, Nat.reduceSub, Int.reduceEq, Nat.reduceBEq, evB]; rfl) (by simp (maxSteps := 4000000) only [↓reduceIte, Nat.reduceLT, Nat.reduceEqDiff, reduceCtorEq, Nat.reduceAdd, Nat.reduceMul, Int.reduceLE, Int.reduceLT, Int.reduceToNat, Nat.reduceLeDiff, Nat.reduceSub, Int.reduceEq, Nat.reduceBEq, evB, bos_len, hoL, hF]) ?_
      refine awp_ret (ends_plain (.inr rfl) rfl ?_)
      simp (maxSteps := 4000000) only [↓reduceIte, Nat.reduceLT, Nat.reduceEqDiff, reduceCtorEq, Nat.reduceAdd, Nat.reduceMul, Int.reduceLE, Int.reduceLT, Int.reduceToNat, Nat.reduceLeDiff, Nat.reduceSub, Int.reduceEq, Nat.reduceBEq, evB, bos_take, htk]
    · generalize ho : swpI N F r = o at *
      (repeat (first | refine awp_seq ?_ | refine awp_block ?_ | ((first | refine awp_skip ?_ | refine awp_exit ?_ | refine awp_reg ttok ?_ | (refine awp_draw ttok ?dr_calm ?_; (case dr_calm => decide +kernel)) | refine awp_condM ?_); simp (maxSteps := 4000000) only [↓reduceIte, Nat.reduceLT, Nat.reduceEqDiff, reduceCtorEq, Nat.reduceAdd, Nat.reduceMul, Int.reduceLE, Int.reduceLT, Int.reduceToNat, Nat.reduceLeDiff, Nat.reduceSub, Int.reduceEq, Nat.reduceBEq, evB, tyA, iis_len, hl]; (repeat (with_reducible refine And.intro ?_ ?_; exact sdX)); (with_reducible first | refine awp_id ?_ | refine id_call ?_ | refine id_and ?_ | refine id_ex ?_ | refine id_all ?_ | refine id_nat ?_ | refine id_le ?_))))
      refine awp_loop (X := Nat) (fun i => mkS 37 [(1, .ptr 1000 0 0), (3, .ptr 4003 0 0), (4, bo (!(swpS N o i == o))), (15, .sl false (iis N)), (16, i64 k), (17, i64 i)] [(1000, { sz := 4, rows := [[i64 L, i64 st, .sl false (bos F), .sl false (iis N)]], flat := false }), (4003, { sz := 1, rows := [[.own 104002 0 k]], flat := false }), (104002, { sz := 1, rows := bos (swpS N o i) })]) (fun i => i ≤ k) (fun i => k - i) 0 (Nat.zero_le _) (mkS_le rfl ?_ ?_) ?_
      · simp (maxSteps := 4000000) only [↓reduceIte, Nat.reduceLT, Nat.reduceEqDiff, reduceCtorEq, Nat.reduceAdd, Nat.reduceMul, Int.reduceLE, Int.reduceLT, Int.reduceToNat, Nat.reduceLeDiff, Nat.reduceSub, Int.reduceEq, Nat.reduceBEq, evB, swpS, beq_self_eq_true, Bool.not_true]
        try rfl
      · simp (maxSteps := 4000000) only [↓reduceIte, Nat.reduceLT, Nat.reduceEqDiff, reduceCtorEq, Nat.reduceAdd, Nat.reduceMul, Int.reduceLE, Int.reduceLT, Int.reduceToNat, Nat.reduceLeDiff, Nat.reduceSub, Int.reduceEq, Nat.reduceBEq, evB, swpS]
        try rfl
      · intro i hi
        by_cases hlt : i < k
        · have d1 : decide ((i : Int) < (k : Int)) = true := by simpa using hlt
          have hwi : IntKind.i64.wrap ((i : Int) + 1) = ((i + 1 : Nat) : Int) := i64_in (by omega) (by omega)
          have hgi := iis_get (l := N) (i := i) (by omega)
          have hrow := h.get hlt
          have hsame := swp_same (N := N) (o := o) (i := i)
          have hturn := swp_turn (N := N) (o := o) (i := i)
          have hpL := swpS_len N o i
          generalize swpS N o i = p at *
          have hgb := bos_get (l := p) (i := i) (by omega)
          have htk : List.take k p = p := List.take_of_length_le (by omega)
          have hct := c_CtI 97 [.sl false (bos p)] fnok97 (fun s => decide (s ≥ 0) && p.getD s.toNat false) false (N.getD i []) (by omega) (fun x hx => c_Live1 p x (by have := hrow.2 x hx; omega))
          generalize hA : ((N.getD i []).any fun s => decide (s ≥ 0) && p.getD s.toNat false) = A at *
          cases hq : p.getD i false
          · rw [hq] at hgb
            rw [hq] at hsame hturn
            rw [Bool.not_false, Bool.true_and] at hsame hturn
            (repeat (first | refine awp_seq ?_ | refine awp_block ?_ | ((first | refine awp_skip ?_ | refine awp_exit ?_ | refine awp_reg ttok ?_ | (refine awp_draw ttok ?dr_calm ?_; (case dr_calm => decide +kernel)) | refine awp_condM ?_); simp (maxSteps := 4000000) only [↓reduceIte, Nat.reduceLT, Nat.reduceEqDiff, reduceCtorEq, Nat.reduceAdd, Nat.reduceMul, Int.reduceLE, Int.reduceLT, Int.reduceToNat, Nat.reduceLeDiff, Nat.reduceSub, Int.reduceEq, Nat.reduceBEq, evB, tyA, d1, hgi, iis_len, hl, bos_len, hpL, hoL, hF, hgb, bos_take, htk]; (repeat (with_reducible refine And.intro ?_ ?_; exact sdX)); (with_reducible first | refine awp_id ?_ | refine id_call ?_ | refine id_and ?_ | refine id_ex ?_ | refine id_all ?_ | refine id_nat ?_ | refine id_le ?_))))
            refine callVC_scal fnok79 hct rfl ?_
            simp (maxSteps := 4000000) only [↓reduceIte, Nat.reduceLT, Nat.reduceEqDiff, reduceCtorEq, Nat.reduceAdd, Nat.reduceMul, Int.reduceLE, Int.reduceLT, Int.reduceToNat, Nat.reduceLeDiff, Nat.reduceSub, Int.reduceEq, Nat.reduceBEq, evB, tyA, bos_take, htk]
            (repeat (with_reducible refine And.intro ?_ ?_; exact sdX))
            cases A
            · (repeat (first | refine awp_seq ?_ | refine awp_block ?_ | ((first | refine awp_skip ?_ | refine awp_exit ?_ | refine awp_reg ttok ?_ | (refine awp_draw ttok ?dr_calm ?_; (case dr_calm => decide +kernel)) | refine awp_condM ?_); simp (maxSteps := 4000000) only [↓reduceIte, Nat.reduceLT, Nat.reduceEqDiff, reduceCtorEq, Nat.reduceAdd, Nat.reduceMul, Int.reduceLE, Int.reduceLT, Int.reduceToNat, Nat.reduceLeDiff, Nat.reduceSub, Int.reduceEq, Nat.reduceBEq, evB, tyA, hwi]; (repeat (with_reducible refine And.intro ?_ ?_; exact sdX)); (with_reducible first | refine awp_id ?_ | refine id_call ?_ | refine id_and ?_ | refine id_ex ?_ | refine id_all ?_ | refine id_nat ?_ | refine id_le ?_))))
              refine ⟨i + 1, by omega, by omega, mkS_le rfl ?_ ?_⟩
              · simp (maxSteps := 4000000) only [↓reduceIte, Nat.reduceLT, Nat.reduceEqDiff, reduceCtorEq, Nat.reduceAdd, Nat.reduceMul, Int.reduceLE, Int.reduceLT, Int.reduceToNat, Nat.reduceLeDiff, Nat.reduceSub, Int.reduceEq, Nat.reduceBEq, evB, hsame rfl (by omega)]
              · simp (maxSteps := 4000000) only [↓reduceIte, Nat.reduceLT, Nat.reduceEqDiff, reduceCtorEq, Nat.reduceAdd, Nat.reduceMul, Int.reduceLE, Int.reduceLT, Int.reduceToNat, Nat.reduceLeDiff, Nat.reduceSub, Int.reduceEq, Nat.reduceBEq, evB, hsame rfl (by omega)]
            · have ht := hturn rfl (by omega)
              (repeat (first | refine awp_seq ?_ | refine awp_block ?_ | ((first | refine awp_skip ?_ | refine awp_exit ?_ | refine awp_reg ttok ?_ | (refine awp_draw ttok ?dr_calm ?_; (case dr_calm => decide +kernel)) | refine awp_condM ?_); simp (maxSteps := 4000000) only [↓reduceIte, Nat.reduceLT, Nat.reduceEqDiff, reduceCtorEq, Nat.reduceAdd, Nat.reduceMul, Int.reduceLE, Int.reduceLT, Int.reduceToNat, Nat.reduceLeDiff, Nat.reduceSub, Int.reduceEq, Nat.reduceBEq, evB, tyA, hwi, bos_len, hpL, hoL, hF]; (repeat (with_reducible refine And.intro ?_ ?_; exact sdX)); (with_reducible first | refine awp_id ?_ | refine id_call ?_ | refine id_and ?_ | refine id_ex ?_ | refine id_all ?_ | refine id_nat ?_ | refine id_le ?_))))
              refine ⟨i + 1, by omega, by omega, mkS_le rfl ?_ ?_⟩
              · simp (maxSteps := 4000000) only [↓reduceIte, Nat.reduceLT, Nat.reduceEqDiff, reduceCtorEq, Nat.reduceAdd, Nat.reduceMul, Int.reduceLE, Int.reduceLT, Int.reduceToNat, Nat.reduceLeDiff, Nat.reduceSub, Int.reduceEq, Nat.reduceBEq, evB, ht.2]
                try rfl
              · have hse : (bos p).set i [D.v (Value.bool true)] = bos (p.set i true) := bos_set p i true
                simp (maxSteps := 4000000) only [↓reduceIte, Nat.reduceLT, Nat.reduceEqDiff, reduceCtorEq, Nat.reduceAdd, Nat.reduceMul, Int.reduceLE, Int.reduceLT, Int.reduceToNat, Nat.reduceLeDiff, Nat.reduceSub, Int.reduceEq, Nat.reduceBEq, evB, ht.1, hgb, hse]
          · rw [hq] at hgb
            rw [hq, Bool.not_true, Bool.false_and] at hsame
            (repeat (first | refine awp_seq ?_ | refine awp_block ?_ | ((first | refine awp_skip ?_ | refine awp_exit ?_ | refine awp_reg ttok ?_ | (refine awp_draw ttok ?dr_calm ?_; (case dr_calm => decide +kernel)) | refine awp_condM ?_); simp (maxSteps := 4000000) only [↓reduceIte, Nat.reduceLT, Nat.reduceEqDiff, reduceCtorEq, Nat.reduceAdd, Nat.reduceMul, Int.reduceLE, Int.reduceLT, Int.reduceToNat, Nat.reduceLeDiff, Nat.reduceSub, Int.reduceEq, Nat.reduceBEq, evB, tyA, d1, hgi, iis_len, hl, bos_len, hpL, hoL, hF, hgb, hwi]; (repeat (with_reducible refine And.intro ?_ ?_; exact sdX)); (with_reducible first | refine awp_id ?_ | refine id_call ?_ | refine id_and ?_ | refine id_ex ?_ | refine id_all ?_ | refine id_nat ?_ | refine id_le ?_))))
            refine ⟨i + 1, by omega, by omega, mkS_le rfl ?_ ?_⟩
            · simp (maxSteps := 4000000) only [↓reduceIte, Nat.reduceLT, Nat.reduceEqDiff, reduceCtorEq, Nat.reduceAdd, Nat.reduceMul, Int.reduceLE, Int.reduceLT, Int.reduceToNat, Nat.reduceLeDiff, Nat.reduceSub, Int.reduceEq, Nat.reduceBEq, evB, hsame rfl (by omega)]
            · simp (maxSteps := 4000000) only [↓reduceIte, Nat.reduceLT, Nat.reduceEqDiff, reduceCtorEq, Nat.reduceAdd, Nat.reduceMul, Int.reduceLE, Int.reduceLT, Int.reduceToNat, Nat.reduceLeDiff, Nat.reduceSub, Int.reduceEq, Nat.reduceBEq, evB, hsame rfl (by omega)]
        · have d1 : decide ((i : Int) < (k : Int)) = false := by simpa using hlt
          obtain rfl : i = k := by omega
          have he : swpS N o i = swp N o := by rw [swp, hl]
          have hcb := ble_count hob
          have hcl := List.count_le_length (a := true) (l := swp N o)
          rw [swp_len] at hcl
          (repeat (first | refine awp_seq ?_ | refine awp_block ?_ | ((first | refine awp_skip ?_ | refine awp_exit ?_ | refine awp_reg ttok ?_ | (refine awp_draw ttok ?dr_calm ?_; (case dr_calm => decide +kernel)) | refine awp_condM ?_); simp (maxSteps := 4000000) only [↓reduceIte, Nat.reduceLT, Nat.reduceEqDiff, reduceCtorEq, Nat.reduceAdd, Nat.reduceMul, Int.reduceLE, Int.reduceLT, Int.reduceToNat, Nat.reduceLeDiff, Nat.reduceSub, Int.reduceEq, Nat.reduceBEq, evB, tyA, d1]; (repeat (with_reducible refine And.intro ?_ ?_; exact sdX)); (with_reducible first | refine awp_id ?_ | refine id_call ?_ | refine id_and ?_ | refine id_ex ?_ | refine id_all ?_ | refine id_nat ?_ | refine id_le ?_))))
          refine ⟨(r + 1, !(swpS N o i == o)), ?_, ?_, mkS_le rfl ?_ ?_⟩
          · intro hm
            rw [Bool.not_eq_false', beq_iff_eq, he] at hm
            rw [hnx, hm, hm]
          · simp only [he, hnx, ho]
            cases hq : (swp N o == o)
            · have hne : swp N o ≠ o := by rwa [beq_eq_false_iff_ne] at hq
              have : o.count true ≠ (swp N o).count true := fun e => hne (hcb.2 e).symm
              simp only [Bool.not_false, Bool.toNat_true]
              omega
            · rw [beq_iff_eq] at hq
              rw [hq]
              simp
          · exact evX
          · simp (maxSteps := 4000000) only [↓reduceIte, Nat.reduceLT, Nat.reduceEqDiff, reduceCtorEq, Nat.reduceAdd, Nat.reduceMul, Int.reduceLE, Int.reduceLT, Int.reduceToNat, Nat.reduceLeDiff, Nat.reduceSub, Int.reduceEq, Nat.reduceBEq, evB, he, hnx]
end Go.Proofs.Ytcpipfodedfpkaa
