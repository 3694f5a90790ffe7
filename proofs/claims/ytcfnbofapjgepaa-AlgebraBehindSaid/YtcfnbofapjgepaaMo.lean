/-
  What mini.Of comes to: the same words, states of which no two are alike, each come to, from each it may end; done again it is the same.
-/
import Derived.Test.YtcfnbofapjgepaaMm
import Derived.Test.YtcfnbofapjgepaaOl
import Derived.Test.YtcfnbofapjgepaaAlk
namespace Go.Proofs.Ytcfnbofapjgepaa
open Go.Ab
set_option linter.unusedSimpArgs false
set_option linter.unusedVariables false

theorem dead_iff {c : List Int} {t : Int} : dead c t = false ↔ 0 ≤ t ∧ 0 ≤ cl c t := by
  simp only [dead, Bool.or_eq_false_iff, decide_eq_false_iff_not]
  omega
theorem dead_neg {c : List Int} {t : Int} (h : t < 0) : dead c t = true := by
  unfold dead
  rw [decide_eq_true h, Bool.true_or]
theorem oNum_bd {c q : List Int} {t : Int} (h : dead c t = false → cl c t ∈ q.map (cl c)) : -1 ≤ oNum c q t ∧ oNum c q t < (q.length : Int) := by
  unfold oNum
  cases hd : dead c t
  · have h1 := List.idxOf_lt_length_of_mem (h hd)
    rw [List.length_map] at h1
    simp only [Bool.false_eq_true, if_false]
    omega
  · simp only [if_true]; omega
theorem getD_mapI {α : Type} (f : Int → α) (d : α) {q : List Int} {i : Nat} (h : i < q.length) : (q.map f).getD i d = f (q.getD i 0) := by
  simp [List.getD, List.getElem?_eq_getElem h]
/-- A Dfa, and the least one's states. -/
structure OA (L k : Nat) (N : List (List Int)) (F : List Bool) (st : Nat) (Q : List Int) : Prop where
  ok : NOk L k N
  hF : F.length = k
  hst : st < k
  h0 : 0 ≤ (clsF F N).getD st 0
  hQ : Q = oAll N (clsF F N) st
section
variable {L k st : Nat} {N : List (List Int)} {F : List Bool} {Q : List Int}
theorem OA.oi (h : OA L k N F st Q) (i : Nat) : OI k (clsF F N) (oQ N (clsF F N) st i) := oQ_oi h.ok h.hst h.h0 i
theorem OA.oiQ (h : OA L k N F st Q) : OI k (clsF F N) Q := by rw [h.hQ]; exact h.oi _
theorem OA.bd (h : OA L k N F st Q) {q : List Int} (hq : OI k (clsF F N) q) : q.length ≤ k := by
  have hl := h.ok.len
  have hF := h.hF
  refine hq.len (fun x hx => ?_) ?_
  · rw [← clsF_fix (F := F) (N := N) (by omega)] at hx
    simp only [refL, List.mem_map, List.mem_range] at hx
    obtain ⟨i, hi, rfl⟩ := hx
    have := refI_bd (lv := liveL F N) (c := clsF F N) i hi
    omega
  · rw [show (clsF F N).length = F.length from clsR_len (by omega) _, hF]
theorem OA.lenQ (h : OA L k N F st Q) : Q.length ≤ k := h.bd h.oiQ
theorem OA.pre (h : OA L k N F st Q) (i : Nat) (hi : i ≤ k) : ∃ u, Q = oQ N (clsF F N) st i ++ u := by
  rw [h.hQ]; exact oAll_pre (by rw [h.ok.len]; exact hi)
theorem OA.lt (h : OA L k N F st Q) {i : Nat} (hi : i < Q.length) : i < (oQ N (clsF F N) st i).length := by
  by_cases g : i < (oQ N (clsF F N) st i).length
  · exact g
  · have hk := h.lenQ
    have := oAll_of (N := N) (c := clsF F N) (st := st) (i := i) (by rw [h.ok.len]; omega) g
    rw [← h.hQ] at this
    rw [this] at g; omega
theorem OA.at_ (h : OA L k N F st Q) {i : Nat} (hi : i < Q.length) : (oQ N (clsF F N) st i).getD i 0 = Q.getD i 0 := by
  have hk := h.lenQ
  obtain ⟨u, hu⟩ := h.pre i (by omega)
  rw [hu, getD_app_lt (h.lt hi)]
/-- The state that one stands for. -/
theorem OA.st_ (h : OA L k N F st Q) {i : Nat} (hi : i < Q.length) : ∃ s : Nat, Q.getD i 0 = (s : Int) ∧ s < k ∧ (liveL F N).getD s false = true := by
  obtain ⟨s, h1, h2, h3⟩ := h.oiQ.get hi
  exact ⟨s, h1, h2, (clsF_live h.ok h.hF h2).2 h3⟩
theorem OA.row (h : OA L k N F st Q) {i a : Nat} (hi : i < Q.length) (ha : a ≤ L) : ∃ u, Q = oRow N (clsF F N) (oQ N (clsF F N) st i) (Q.getD i 0).toNat a ++ u := by
  have hk := h.lenQ
  have := oRow_all (N := N) (c := clsF F N) (st := st) (i := i) (a := a) (h.lt hi) (by rw [h.ok.len]; omega)
  obtain ⟨s, h1, h2, h3⟩ := h.st_ hi
  rw [h.at_ hi, h1, Int.toNat_natCast, (h.ok.get h2).1, ← h.hQ] at this
  rw [h1, Int.toNat_natCast]
  exact this ha
theorem OA.has (h : OA L k N F st Q) {i s a : Nat} (hi : i < Q.length) (hs : Q.getD i 0 = (s : Int)) (ha : a < L) (hd : dead (clsF F N) ((N.getD s []).getD a 0) = false) : cl (clsF F N) ((N.getD s []).getD a 0) ∈ Q.map (cl (clsF F N)) := by
  obtain ⟨u, hu⟩ := h.row hi (a := a + 1) (by omega)
  rw [hs, Int.toNat_natCast, oRow] at hu
  rw [hu, List.map_append]
  exact List.mem_append_left _ (oAdd_has hd)
theorem OA.q0 (h : OA L k N F st Q) : 0 < Q.length ∧ Q.getD 0 0 = (st : Int) := by
  obtain ⟨u, hu⟩ := h.pre 0 (Nat.zero_le _)
  rw [hu]
  simp [oQ]
theorem OA.cell (h : OA L k N F st Q) {i s a : Nat} (hi : i < Q.length) (hs : Q.getD i 0 = (s : Int)) (hsk : s < k) (ha : a < L) : ((oNx N (clsF F N) Q).getD i []).getD a 0 = oNum (clsF F N) Q ((N.getD s []).getD a 0) := by
  have hr := (h.ok.get hsk).1
  unfold oNx
  rw [getD_mapI _ _ hi, hs, Int.toNat_natCast, getD_mapI _ _ (by omega)]
theorem OA.ok2 (h : OA L k N F st Q) : NOk L Q.length (oNx N (clsF F N) Q) := by
  refine ⟨by simp [oNx], fun r hr => ?_⟩
  unfold oNx at hr
  obtain ⟨s', hs', rfl⟩ := List.mem_map.1 hr
  obtain ⟨i, hi, rfl⟩ := List.getElem_of_mem hs'
  obtain ⟨s, h1, h2, h3⟩ := h.st_ hi
  have e : Q[i] = (s : Int) := by rw [← h1]; exact getE hi
  rw [e, Int.toNat_natCast]
  have hrl := (h.ok.get h2).1
  refine ⟨by rw [List.length_map, hrl], fun t ht => ?_⟩
  obtain ⟨u, hu, rfl⟩ := List.mem_map.1 ht
  obtain ⟨a, ha, rfl⟩ := List.getElem_of_mem hu
  refine oNum_bd fun hd => ?_
  rw [getE ha] at hd ⊢
  exact h.has hi h1 (by omega) hd
theorem OA.hF2 (h : OA L k N F st Q) : (oFin F Q).length = Q.length := by simp [oFin]
/-- The same words. -/
theorem OA.lang (h : OA L k N F st Q) : ∀ (w : List Int) (i s : Nat), i < Q.length → Q.getD i 0 = (s : Int) → endsD (oFin F Q) (oNx N (clsF F N) Q) i w = endsD F N s w
  | [], i, s, hi, hs => by
    have f : ∀ (F : List Bool) (N : List (List Int)) (s : Nat), endsD F N s [] = F.getD s false := fun F N s => by
      simp only [endsD, runD, Int.toNat_natCast]; simp
    rw [f, f, oFin, getD_mapI _ _ hi, hs, Int.toNat_natCast]
  | a :: w, i, s, hi, hs => by
    obtain ⟨s', h1, h2, h3⟩ := h.st_ hi
    rw [hs] at h1
    obtain rfl : s = s' := by omega
    rw [ends_cons, ends_cons]
    by_cases ha : 0 ≤ a ∧ a < (L : Int)
    · obtain ⟨b, rfl⟩ := Int.eq_ofNat_of_zero_le ha.1
      have hb : b < L := by omega
      rw [toD_at h.ok2 hi ha, toD_at h.ok h2 ha, Int.toNat_natCast, h.cell hi hs h2 hb]
      have hhas := h.has hi hs hb
      have htb := h.ok.at h2 hb
      generalize (N.getD s []).getD b 0 = t at *
      cases hd : dead (clsF F N) t
      · have hm := hhas hd
        obtain ⟨t0, hc⟩ := dead_iff.1 hd
        obtain ⟨n, rfl⟩ := Int.eq_ofNat_of_zero_le t0
        have hn : n < k := by omega
        have hln := (clsF_live h.ok h.hF hn).2 (by simpa [cl] using hc)
        have hj := List.idxOf_lt_length_of_mem hm
        have hg := List.getElem_idxOf hj
        unfold oNum
        rw [hd, if_neg (by simp)]
        generalize (Q.map (cl (clsF F N))).idxOf (cl (clsF F N) ((n : Nat) : Int)) = j at *
        have hj2 : j < Q.length := by simpa using hj
        rw [List.getElem_map] at hg
        obtain ⟨m, m1, m2, m3⟩ := h.st_ hj2
        rw [h.lang w j m hj2 m1]
        rw [getE hj2, m1] at hg
        exact lang_of_cls h.ok h.hF w m n m2 hn m3 hln (by simpa [cl] using hg)
      · unfold oNum
        rw [hd, if_pos rfl, ends_neg (by decide)]
        by_cases ht : t < 0
        · rw [ends_neg ht]
        · obtain ⟨n, rfl⟩ := Int.eq_ofNat_of_zero_le (Int.not_lt.1 ht)
          have hn : n < k := by omega
          cases hq : (liveL F N).getD n false
          · rw [dead_word h.ok h.hF hn hq]
          · have := (clsF_live h.ok h.hF hn).1 hq
            have hd2 : dead (clsF F N) ((n : Nat) : Int) = false := dead_iff.2 ⟨by omega, by simpa [cl] using this⟩
            rw [hd] at hd2; cases hd2
    · rw [toD_far h.ok2 hi ha, toD_far h.ok h2 ha, ends_neg (by decide), ends_neg (by decide)]
/-- No two are alike. -/
theorem OA.apart (h : OA L k N F st Q) {i j : Nat} (hi : i < Q.length) (hj : j < Q.length) (hw : ∀ w, endsD (oFin F Q) (oNx N (clsF F N) Q) i w = endsD (oFin F Q) (oNx N (clsF F N) Q) j w) : i = j := by
  obtain ⟨s, s1, s2, s3⟩ := h.st_ hi
  obtain ⟨t, t1, t2, t3⟩ := h.st_ hj
  have e : (clsF F N).getD s 0 = (clsF F N).getD t 0 := cls_of_lang h.ok h.hF (F.length + 2) s t s2 t2 s3 t3 fun w => by rw [← h.lang w i s hi s1, ← h.lang w j t hj t1]; exact hw w
  have g1 := getD_mapI (cl (clsF F N)) 0 hi
  have g2 := getD_mapI (cl (clsF F N)) 0 hj
  rw [s1] at g1; rw [t1] at g2
  have e2 : (Q.map (cl (clsF F N))).getD i 0 = (Q.map (cl (clsF F N))).getD j 0 := by
    rw [g1, g2]
    simpa [cl] using e
  have hi2 : i < (Q.map (cl (clsF F N))).length := by simpa using hi
  have hj2 : j < (Q.map (cl (clsF F N))).length := by simpa using hj
  rw [← getE hi2, ← getE hj2] at e2
  exact (List.getElem_inj h.oiQ.nd).1 e2
theorem OA.alive (h : OA L k N F st Q) {i : Nat} (hi : i < Q.length) : (liveL (oFin F Q) (oNx N (clsF F N) Q)).getD i false = true := by
  obtain ⟨s, s1, s2, s3⟩ := h.st_ hi
  obtain ⟨w, hw⟩ := (live_word h.ok h.hF s2).1 s3
  exact (live_word h.ok2 h.hF2 hi).2 ⟨w, by rw [h.lang w i s hi s1]; exact hw⟩
/-- They are numbered as they are come to. -/
def metO (N : List (List Int)) (c : List Int) (st : Nat) (Q : List Int) (i a : Nat) : Nat := (oRow N c (oQ N c st i) (Q.getD i 0).toNat a).length
theorem OA.met (h : OA L k N F st Q) {i a : Nat} (hi : i < Q.length) (ha : a < L) : ∃ x : Int, ((oNx N (clsF F N) Q).getD i []).getD a 0 = x ∧ -1 ≤ x ∧
    ((x < (metO N (clsF F N) st Q i a : Int) ∧ metO N (clsF F N) st Q i (a + 1) = metO N (clsF F N) st Q i a) ∨ (x = (metO N (clsF F N) st Q i a : Int) ∧ metO N (clsF F N) st Q i (a + 1) = metO N (clsF F N) st Q i a + 1)) := by
  obtain ⟨s, s1, s2, s3⟩ := h.st_ hi
  refine ⟨_, h.cell hi s1 s2 ha, (oNum_bd (h.has hi s1 ha)).1, ?_⟩
  obtain ⟨u, hu⟩ := h.row hi (a := a + 1) (by omega)
  unfold metO
  rw [s1, Int.toNat_natCast] at hu ⊢
  rw [oRow] at hu ⊢
  have hnum := oNum_pre (c := clsF F N) (q := oAdd (clsF F N) (oRow N (clsF F N) (oQ N (clsF F N) st i) s a) ((N.getD s []).getD a 0)) (u := u) (t := (N.getD s []).getD a 0) oAdd_has
  rw [← hu] at hnum
  rw [hnum]
  generalize oRow N (clsF F N) (oQ N (clsF F N) st i) s a = q
  generalize (N.getD s []).getD a 0 = t
  cases hd : dead (clsF F N) t
  · cases hc : (q.map (cl (clsF F N))).contains (cl (clsF F N) t)
    · right
      unfold oNum oAdd
      simp only [hd, hc, Bool.false_eq_true, if_false, List.length_append, List.length_cons, List.length_nil]
      rw [List.map_append, List.idxOf_append, if_neg (by simpa using hc)]
      simp
    · left
      have hm : cl (clsF F N) t ∈ q.map (cl (clsF F N)) := by simpa using hc
      have := List.idxOf_lt_length_of_mem hm
      rw [List.length_map] at this
      unfold oNum oAdd
      simp only [hd, hc, Bool.false_eq_true, if_false, if_true]
      exact ⟨by omega, trivial⟩
  · left
    unfold oNum oAdd
    simp only [hd, if_true]
    exact ⟨by omega, trivial⟩
theorem metO_0 (Q : List Int) (i : Nat) : metO N (clsF F N) st Q i 0 = (oQ N (clsF F N) st i).length := rfl
theorem OA.metN (h : OA L k N F st Q) {i : Nat} (hi : i < Q.length) : metO N (clsF F N) st Q i L = (oQ N (clsF F N) st (i + 1)).length := by
  obtain ⟨s, s1, s2, s3⟩ := h.st_ hi
  rw [oQ, if_pos (h.lt hi), oStp, h.at_ hi]
  unfold metO
  rw [s1, Int.toNat_natCast, (h.ok.get s2).1]
/-! Done again it is the same. -/
theorem kst_own {N : List (List Int)} {F : List Bool} (h : NOk L k N) (hF : F.length = k) (hlv : ∀ i, i < k → (liveL F N).getD i false = true) (hap : ∀ i j, i < k → j < k → (∀ w, endsD F N i w = endsD F N j w) → i = j) : ∀ i, i ≤ k → (kst N (liveL F N) (clsF F N) i).length = i ∧ (i < k → (clsF F N).getD i 0 = (i : Int))
  | i, hik => by
    have hl := h.len
    have hnew : ∀ i, i < k → (kst N (liveL F N) (clsF F N) i).contains (keyL N (liveL F N) (clsF F N) i) = false := fun i hi => by
      rw [Bool.eq_false_iff]
      intro hc
      obtain ⟨j, hj, lj, e⟩ := kst_in (show keyL N (liveL F N) (clsF F N) i ∈ kst N (liveL F N) (clsF F N) i by simpa using hc)
      have e2 := (clsF_key h hF hi (by omega) (hlv i hi) lj).2 e
      have := hap i j hi (by omega) fun w => lang_of_cls h hF w i j hi (by omega) (hlv i hi) lj e2
      omega
    have hlen : ∀ i, i ≤ k → (kst N (liveL F N) (clsF F N) i).length = i := fun i => by
      induction i with
      | zero => intro _; rfl
      | succ i ih =>
        intro hi
        rw [kst, if_pos (hlv i (by omega)), addK, hnew i (by omega), if_neg (by simp), List.length_append, ih (by omega)]
        rfl
    refine ⟨hlen i hik, fun hi => ?_⟩
    rw [clsF_get h hF hi, refI_at (by omega) (hlv i hi), kst, if_pos (hlv i hi), addK, hnew i hi, if_neg (by simp), List.idxOf_append, if_neg (by simpa using hnew i hi), hlen i hik]
    simp
def rgI (n : Nat) : List Int := (List.range n).map fun (i : Nat) => (i : Int)
theorem rgI_len (n : Nat) : (rgI n).length = n := by simp [rgI]
theorem rgI_get {n i : Nat} (h : i < n) : (rgI n).getD i 0 = (i : Int) := by simp [rgI, List.getD, h]
theorem rgI_succ (n : Nat) : rgI (n + 1) = rgI n ++ [(n : Int)] := by simp [rgI, List.range_succ]
theorem OA.cls2 (h : OA L k N F st Q) {i : Nat} (hi : i < Q.length) : (clsF (oFin F Q) (oNx N (clsF F N) Q)).getD i 0 = (i : Int) :=
  (kst_own h.ok2 h.hF2 (fun i hi => h.alive hi) (fun i j hi hj hw => h.apart hi hj hw) i (by omega)).2 hi
theorem OA.cl2 (h : OA L k N F st Q) {i : Nat} (hi : i < Q.length) : cl (clsF (oFin F Q) (oNx N (clsF F N) Q)) (i : Int) = (i : Int) := by
  have := h.cls2 hi
  simpa [cl] using this
theorem OA.clR (h : OA L k N F st Q) {n : Nat} (hn : n ≤ Q.length) : (rgI n).map (cl (clsF (oFin F Q) (oNx N (clsF F N) Q))) = rgI n := by
  apply List.ext_getElem
  · simp
  · intro i h1 h2
    have hi : i < n := by rw [rgI_len] at h2; exact h2
    rw [List.getElem_map]
    simp only [rgI, List.getElem_map, List.getElem_range]
    exact h.cl2 (by omega)
theorem rgI_has {n m : Nat} : (rgI n).contains (m : Int) = decide (m < n) := by
  rw [Bool.eq_iff_iff]
  simp only [rgI, List.contains_eq_mem, List.mem_map, List.mem_range, decide_eq_true_eq]
  constructor
  · rintro ⟨a, ha, e⟩; omega
  · intro hm; exact ⟨m, hm, rfl⟩
theorem OA.row2 (h : OA L k N F st Q) {i : Nat} (hi : i < Q.length) : ∀ a, a ≤ L → oRow (oNx N (clsF F N) Q) (clsF (oFin F Q) (oNx N (clsF F N) Q)) (rgI (oQ N (clsF F N) st i).length) i a = rgI (metO N (clsF F N) st Q i a)
  | 0, _ => by rw [oRow, metO_0]
  | a + 1, ha => by
    rw [oRow, OA.row2 h hi a (by omega)]
    obtain ⟨x, hx, hx1, hc⟩ := h.met hi (a := a) (by omega)
    obtain ⟨u, hu⟩ := h.row hi (a := a + 1) ha
    have hml : metO N (clsF F N) st Q i (a + 1) ≤ Q.length := by
      have := congrArg List.length hu
      rw [List.length_append] at this
      unfold metO; omega
    rw [hx]
    generalize metO N (clsF F N) st Q i a = m at *
    generalize metO N (clsF F N) st Q i (a + 1) = m' at *
    unfold oAdd
    by_cases h0 : x < 0
    · rw [if_pos (dead_neg h0)]
      rcases hc with ⟨_, q⟩ | ⟨q, _⟩
      · rw [q]
      · omega
    · obtain ⟨y, rfl⟩ := Int.eq_ofNat_of_zero_le (Int.not_lt.1 h0)
      have hy : y < Q.length := by rcases hc with ⟨q1, q2⟩ | ⟨q1, q2⟩ <;> omega
      have hcl := h.cl2 hy
      have hd : dead (clsF (oFin F Q) (oNx N (clsF F N) Q)) ((y : Nat) : Int) = false := dead_iff.2 ⟨by omega, by rw [hcl]; omega⟩
      rw [hd, if_neg (by simp), hcl, h.clR (by rcases hc with ⟨q1, q2⟩ | ⟨q1, q2⟩ <;> omega), rgI_has]
      rcases hc with ⟨q1, q2⟩ | ⟨q1, q2⟩
      · rw [decide_eq_true (by omega), if_pos rfl, q2]
      · rw [decide_eq_false (by omega), if_neg (by simp), q2, rgI_succ, q1]
theorem OA.q2 (h : OA L k N F st Q) : ∀ i, i ≤ Q.length → oQ (oNx N (clsF F N) Q) (clsF (oFin F Q) (oNx N (clsF F N) Q)) 0 i = rgI (oQ N (clsF F N) st i).length
  | 0, _ => rfl
  | i + 1, hi => by
    have ih := OA.q2 h i (by omega)
    have hlt := h.lt (i := i) (by omega)
    rw [oQ, ih, rgI_len, if_pos hlt, oStp, rgI_get hlt, Int.toNat_natCast, (h.ok2.get (by omega)).1, h.row2 (by omega) L (Nat.le_refl _), h.metN (by omega)]
end

end Go.Proofs.Ytcfnbofapjgepaa
