/-
  Two side by side: plain functions and facts.
-/
import Derived.Test.YtcfnbofapjgepaaMm
import Derived.Test.YtcfnbofapjgepaaAlk
import Derived.Test.YtcfnbofapjgepaaAk
namespace Go.Proofs.Ytcfnbofapjgepaa
open Go.Ab
set_option linter.unusedSimpArgs false
set_option linter.unusedVariables false

def pAdd (N M : List (List Int)) (q : List S2) (s : S2) (c : Nat) : List S2 := match ch2 N M s c with
  | none => q
  | some t => if q.contains t = true then q else q ++ [t]
def pRow (N M : List (List Int)) (q : List S2) (s : S2) : Nat → List S2
  | 0 => q
  | c + 1 => pAdd N M (pRow N M q s c) s c
def pQ (N M : List (List Int)) (z : S2) (L : Nat) : Nat → List S2
  | 0 => [z]
  | i + 1 => if i < (pQ N M z L i).length then pRow N M (pQ N M z L i) ((pQ N M z L i).getD i (-1, -1)) L else pQ N M z L i
def pAll (N M : List (List Int)) (z : S2) (L : Nat) : List S2 := pQ N M z L ((N.length + 1) * (M.length + 1))
def pNum (q : List S2) : Option S2 → Int
  | none => -1
  | some t => ((q.idxOf t : Nat) : Int)
def pNx (N M : List (List Int)) (L : Nat) (q : List S2) : List (List Int) := q.map fun s => (List.range L).map fun c => pNum q (ch2 N M s c)
def holdsB (kd : Int) (a b : Bool) : Bool := if kd = 1 then a && b else if kd = 2 then a || b else a && !b
def pFin (kd : Int) (F G : List Bool) (q : List S2) : List Bool := q.map fun s => holdsB kd (finS F s.1) (finS G s.2)

structure PI (k m : Nat) (q : List S2) : Prop where
  mem : ∀ s ∈ q, -1 ≤ s.1 ∧ s.1 < (k : Int) ∧ -1 ≤ s.2 ∧ s.2 < (m : Int)
  nd : q.Nodup
section
variable {L k m : Nat} {N M : List (List Int)}
theorem pAdd_pre (q : List S2) (s : S2) (c : Nat) : ∃ u, pAdd N M q s c = q ++ u := by
  unfold pAdd
  split
  · exact ⟨[], by simp⟩
  · split
    · exact ⟨[], by simp⟩
    · exact ⟨_, rfl⟩
theorem pAdd_has {q : List S2} {s t : S2} {c : Nat} (h : ch2 N M s c = some t) : t ∈ pAdd N M q s c := by
  unfold pAdd
  rw [h]
  simp only
  split
  · rename_i g; simpa using g
  · simp
theorem pAdd_pi (hN : NOk L k N) (hM : NOk L m M) {q : List S2} {s : S2} {c : Nat} (h : PI k m q) : PI k m (pAdd N M q s c) := by
  unfold pAdd
  split
  · exact h
  · rename_i t ht
    split
    · exact h
    · rename_i hn
      refine ⟨fun x hx => ?_, ?_⟩
      · rcases List.mem_append.1 hx with g | g
        · exact h.mem x g
        · rw [List.mem_singleton] at g
          subst g
          unfold ch2 at ht
          split at ht
          · cases ht
          · cases ht
            have h1 := toD_ok hN s.1 c
            have h2 := toD_ok hM s.2 c
            simp only; omega
      · rw [List.nodup_append]
        refine ⟨h.nd, by simp, fun x hx y hy => ?_⟩
        rw [List.mem_singleton] at hy
        subst hy
        rintro rfl
        exact hn (by simpa using hx)
theorem pRow_pi (hN : NOk L k N) (hM : NOk L m M) {q : List S2} (h : PI k m q) (s : S2) : ∀ c, PI k m (pRow N M q s c)
  | 0 => h
  | c + 1 => pAdd_pi hN hM (pRow_pi hN hM h s c)
theorem pRow_pre2 (q : List S2) (s : S2) (a : Nat) : ∀ b, ∃ u, pRow N M q s (a + b) = pRow N M q s a ++ u
  | 0 => ⟨[], by simp⟩
  | b + 1 => by
    obtain ⟨u, hu⟩ := pRow_pre2 q s a b
    obtain ⟨v, hv⟩ := pAdd_pre (N := N) (M := M) (pRow N M q s (a + b)) s (a + b)
    exact ⟨u ++ v, by rw [← Nat.add_assoc, pRow, hv, hu, List.append_assoc]⟩
theorem pRow_pre (q : List S2) (s : S2) (a : Nat) : ∃ u, pRow N M q s a = q ++ u := by
  have := pRow_pre2 (N := N) (M := M) q s 0 a
  rw [Nat.zero_add] at this
  exact this
theorem pQ_pi (hN : NOk L k N) (hM : NOk L m M) {z : S2} (hz : -1 ≤ z.1 ∧ z.1 < (k : Int) ∧ -1 ≤ z.2 ∧ z.2 < (m : Int)) : ∀ i, PI k m (pQ N M z L i)
  | 0 => ⟨fun s hs => by simp only [pQ, List.mem_singleton] at hs; subst hs; exact hz, by simp [pQ]⟩
  | i + 1 => by
    have ih := pQ_pi hN hM hz i
    rw [pQ]
    split
    · exact pRow_pi hN hM ih _ _
    · exact ih
theorem pQ_pre (z : S2) (i : Nat) : ∃ u, pQ N M z L (i + 1) = pQ N M z L i ++ u := by
  rw [pQ]
  split
  · exact pRow_pre _ _ _
  · exact ⟨[], by simp⟩
theorem pQ_pre2 (z : S2) (i : Nat) : ∀ j, ∃ u, pQ N M z L (i + j) = pQ N M z L i ++ u
  | 0 => ⟨[], by simp⟩
  | j + 1 => by
    obtain ⟨u, hu⟩ := pQ_pre2 z i j
    obtain ⟨v, hv⟩ := pQ_pre (N := N) (M := M) (L := L) z (i + j)
    exact ⟨u ++ v, by rw [← Nat.add_assoc, hv, hu, List.append_assoc]⟩
theorem pQ_stop (z : S2) {i : Nat} (hi : ¬ i < (pQ N M z L i).length) : ∀ j, pQ N M z L (i + j) = pQ N M z L i
  | 0 => rfl
  | j + 1 => by
    have ih := pQ_stop z hi j
    rw [← Nat.add_assoc, pQ, ih, if_neg (by omega)]
theorem PI.len {q : List S2} (h : PI k m q) : q.length ≤ (k + 1) * (m + 1) := by
  have h1 : (q.map fun s => (s.1 + 1).toNat * (m + 1) + (s.2 + 1).toNat).Nodup := by
    unfold List.Nodup
    rw [List.pairwise_map]
    refine List.Pairwise.imp_of_mem (fun {s t} hs ht hne e => hne ?_) h.nd
    have r1 := h.mem s hs
    have r2 := h.mem t ht
    obtain ⟨s1, s2⟩ := s
    obtain ⟨t1, t2⟩ := t
    simp only at r1 r2 e
    have d1 : ((s1 + 1).toNat * (m + 1) + (s2 + 1).toNat) / (m + 1) = (s1 + 1).toNat := by rw [Nat.mul_comm, Nat.mul_add_div (by omega), Nat.div_eq_of_lt (by omega), Nat.add_zero]
    have d2 : ((t1 + 1).toNat * (m + 1) + (t2 + 1).toNat) / (m + 1) = (t1 + 1).toNat := by rw [Nat.mul_comm, Nat.mul_add_div (by omega), Nat.div_eq_of_lt (by omega), Nat.add_zero]
    have e1 : (s1 + 1).toNat = (t1 + 1).toNat := by rw [← d1, ← d2, e]
    rw [e1] at e
    have x1 : s1 = t1 := by omega
    have x2 : s2 = t2 := by omega
    rw [x1, x2]
  have h2 := nodup_len ((k + 1) * (m + 1)) _ h1 fun x hx => by
    obtain ⟨s, hs, rfl⟩ := List.mem_map.1 hx
    have hr := h.mem s hs
    have h1 : (s.1 + 1).toNat + 1 ≤ k + 1 := by omega
    have h2 : ((s.1 + 1).toNat + 1) * (m + 1) ≤ (k + 1) * (m + 1) := Nat.mul_le_mul h1 (Nat.le_refl _)
    rw [Nat.add_mul, Nat.one_mul] at h2
    omega
  simpa using h2
theorem pNum_pre {q u : List S2} {o : Option S2} (h : ∀ t, o = some t → t ∈ q) : pNum (q ++ u) o = pNum q o := by
  cases o with
  | none => rfl
  | some t => rw [pNum, pNum, List.idxOf_append, if_pos (h t rfl)]

/-- Two, and all that they come to side by side. -/
structure PA (L k m : Nat) (N M : List (List Int)) (a b : Nat) (Q : List S2) : Prop where
  hN : NOk L k N
  hM : NOk L m M
  ha : a < k
  hb : b < m
  hQ : Q = pAll N M ((a : Int), (b : Int)) L
theorem PA.zok {a b : Nat} {Q : List S2} (h : PA L k m N M a b Q) : -1 ≤ ((a : Int), (b : Int)).1 ∧ ((a : Int), (b : Int)).1 < (k : Int) ∧ -1 ≤ ((a : Int), (b : Int)).2 ∧ ((a : Int), (b : Int)).2 < (m : Int) := by
  have := h.ha; have := h.hb
  simp only; omega
theorem PA.pi {a b : Nat} {Q : List S2} (h : PA L k m N M a b Q) (i : Nat) : PI k m (pQ N M ((a : Int), (b : Int)) L i) := pQ_pi h.hN h.hM h.zok i
theorem PA.piQ {a b : Nat} {Q : List S2} (h : PA L k m N M a b Q) : PI k m Q := by rw [h.hQ]; exact h.pi _
theorem PA.end_ {a b : Nat} {Q : List S2} (h : PA L k m N M a b Q) {i : Nat} (hi : i ≤ (k + 1) * (m + 1)) (hs : ¬ i < (pQ N M ((a : Int), (b : Int)) L i).length) : pQ N M ((a : Int), (b : Int)) L i = Q := by
  have := pQ_stop (N := N) (M := M) (L := L) ((a : Int), (b : Int)) hs ((k + 1) * (m + 1) - i)
  rw [show i + ((k + 1) * (m + 1) - i) = (k + 1) * (m + 1) by omega] at this
  rw [h.hQ, pAll, h.hN.len, h.hM.len, this]
theorem PA.pre {a b : Nat} {Q : List S2} (h : PA L k m N M a b Q) {i : Nat} (hi : i ≤ (k + 1) * (m + 1)) : ∃ u, Q = pQ N M ((a : Int), (b : Int)) L i ++ u := by
  obtain ⟨u, hu⟩ := pQ_pre2 (N := N) (M := M) (L := L) ((a : Int), (b : Int)) i ((k + 1) * (m + 1) - i)
  rw [show i + ((k + 1) * (m + 1) - i) = (k + 1) * (m + 1) by omega] at hu
  exact ⟨u, by rw [h.hQ, pAll, h.hN.len, h.hM.len, hu]⟩
theorem PA.lt {a b : Nat} {Q : List S2} (h : PA L k m N M a b Q) {i : Nat} (hi : i < Q.length) : i < (pQ N M ((a : Int), (b : Int)) L i).length := by
  by_cases g : i < (pQ N M ((a : Int), (b : Int)) L i).length
  · exact g
  · have hk := h.piQ.len
    have := h.end_ (by omega) g
    rw [this] at g; omega
theorem PA.at_ {a b : Nat} {Q : List S2} (h : PA L k m N M a b Q) {i : Nat} (hi : i < Q.length) : (pQ N M ((a : Int), (b : Int)) L i).getD i (-1, -1) = Q.getD i (-1, -1) := by
  have hk := h.piQ.len
  obtain ⟨u, hu⟩ := h.pre (i := i) (by omega)
  rw [hu, getD_app_lt (h.lt hi)]
theorem PA.row {a b : Nat} {Q : List S2} (h : PA L k m N M a b Q) {i c : Nat} (hi : i < Q.length) (hc : c ≤ L) : ∃ u, Q = pRow N M (pQ N M ((a : Int), (b : Int)) L i) (Q.getD i (-1, -1)) c ++ u := by
  have hk := h.piQ.len
  obtain ⟨u, hu⟩ := h.pre (i := i + 1) (by omega)
  rw [pQ, if_pos (h.lt hi), h.at_ hi] at hu
  obtain ⟨v, hv⟩ := pRow_pre2 (N := N) (M := M) (pQ N M ((a : Int), (b : Int)) L i) (Q.getD i (-1, -1)) c (L - c)
  rw [show c + (L - c) = L by omega] at hv
  rw [hv, List.append_assoc] at hu
  exact ⟨_, hu⟩
theorem PA.has {a b : Nat} {Q : List S2} (h : PA L k m N M a b Q) {i c : Nat} (hi : i < Q.length) (hc : c < L) {t : S2} (ht : ch2 N M (Q.getD i (-1, -1)) c = some t) : t ∈ Q := by
  obtain ⟨u, hu⟩ := h.row hi (c := c + 1) (by omega)
  rw [pRow] at hu
  rw [hu]
  exact List.mem_append_left _ (pAdd_has ht)
theorem PA.q0 {a b : Nat} {Q : List S2} (h : PA L k m N M a b Q) : 0 < Q.length ∧ Q.getD 0 (-1, -1) = ((a : Int), (b : Int)) := by
  obtain ⟨u, hu⟩ := h.pre (i := 0) (Nat.zero_le _)
  rw [hu]
  simp [pQ]
theorem getD_mapS {α : Type} (f : S2 → α) (d : α) {q : List S2} {i : Nat} (h : i < q.length) : (q.map f).getD i d = f (q.getD i (-1, -1)) := by
  simp [List.getD, List.getElem?_eq_getElem h]
theorem PA.ok {a b : Nat} {Q : List S2} (h : PA L k m N M a b Q) : NOk L Q.length (pNx N M L Q) := by
  refine ⟨by simp [pNx], fun r hr => ?_⟩
  unfold pNx at hr
  obtain ⟨s, hs, rfl⟩ := List.mem_map.1 hr
  obtain ⟨i, hi, rfl⟩ := List.getElem_of_mem hs
  refine ⟨by simp, fun t ht => ?_⟩
  obtain ⟨c, hc, rfl⟩ := List.mem_map.1 ht
  have hc := List.mem_range.1 hc
  have e : Q[i] = Q.getD i (-1, -1) := by simp [List.getD, List.getElem?_eq_getElem hi]
  rw [e]
  cases hx : ch2 N M (Q.getD i (-1, -1)) c with
  | none => rw [pNum]; omega
  | some t =>
    have := List.idxOf_lt_length_of_mem (h.has hi hc hx)
    rw [pNum]; omega
theorem PA.cell {a b : Nat} {Q : List S2} (h : PA L k m N M a b Q) {i c : Nat} (hi : i < Q.length) (hc : c < L) : ((pNx N M L Q).getD i []).getD c 0 = pNum Q (ch2 N M (Q.getD i (-1, -1)) c) := by
  unfold pNx
  rw [getD_mapS _ _ hi]
  simp [List.getD, hc]
theorem holds_ff (kd : Int) : holdsB kd false false = false := by
  unfold holdsB
  split
  · rfl
  · split <;> rfl
theorem ends_far {F : List Bool} (hN : NOk L k N) {s a : Int} (ha : ¬ (0 ≤ a ∧ a < (L : Int))) (w : List Int) : endsD F N (toD N s a) w = false := by
  have : toD N s a < 0 := by
    unfold toD
    split
    · decide
    · rename_i hn
      have h1 := hN.len
      have h2 := (hN.get (s := s.toNat) (by omega)).1
      omega
  exact ends_neg this w
/-- Both words' answers side by side. -/
theorem PA.lang {a b : Nat} {Q : List S2} (h : PA L k m N M a b Q) (kd : Int) (F G : List Bool) : ∀ (w : List Int) (i : Nat), i < Q.length → endsD (pFin kd F G Q) (pNx N M L Q) i w = holdsB kd (endsD F N (Q.getD i (-1, -1)).1 w) (endsD G M (Q.getD i (-1, -1)).2 w)
  | [], i, hi => by
    have f : ∀ (F : List Bool) (N : List (List Int)) (s : Nat), endsD F N s [] = F.getD s false := fun F N s => by
      simp only [endsD, runD, Int.toNat_natCast]; simp
    rw [f, pFin, getD_mapS _ _ hi]
    rfl
  | c :: w, i, hi => by
    rw [ends_cons, ends_cons, ends_cons]
    by_cases hc : 0 ≤ c ∧ c < (L : Int)
    · obtain ⟨d, rfl⟩ := Int.eq_ofNat_of_zero_le hc.1
      have hd : d < L := by omega
      rw [toD_at h.ok hi hc, Int.toNat_natCast, h.cell hi hd]
      have hhas := fun t => h.has hi hd (t := t)
      generalize Q.getD i (-1, -1) = s at *
      cases hx : ch2 N M s d with
      | none =>
        unfold ch2 at hx
        split at hx
        · rename_i hn
          rw [ends_neg hn.1, ends_neg hn.2, holds_ff]
          exact ends_neg (show pNum Q none < 0 by rw [pNum]; decide) w
        · cases hx
      | some t =>
        have hm := hhas t hx
        have hj := List.idxOf_lt_length_of_mem hm
        have hg := List.getElem_idxOf hj
        rw [pNum, h.lang kd F G w _ hj]
        have e : Q.getD (Q.idxOf t) (-1, -1) = t := by
          rw [← hg]; simp [List.getD, List.getElem?_eq_getElem hj]
        rw [e]
        unfold ch2 at hx
        split at hx
        · cases hx
        · cases hx; rfl
    · rw [ends_far h.ok hc, ends_far h.hN hc, ends_far h.hM hc, holds_ff]
end

end Go.Proofs.Ytcfnbofapjgepaa
