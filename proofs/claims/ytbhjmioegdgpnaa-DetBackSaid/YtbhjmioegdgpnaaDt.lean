/-
  Sets of states as states: plain functions and facts.
-/
import Derived.Test.YtbhjmioegdgpnaaClo
import Derived.Test.YtbhjmioegdgpnaaBfs
import Derived.Test.YtbhjmioegdgpnaaIdx
namespace Go.Proofs.Ytbhjmioegdgpnaa
open Go.Ab
set_option linter.unusedSimpArgs false
set_option linter.unusedVariables false

def dTo (M : Mv) (S : List Int) (a : Int) : List Int := cloL M (stepL M S a)
def addQ (q : List (List Int)) (t : List Int) : List (List Int) := if q.contains t = true then q else q ++ [t]
def dFold (M : Mv) (S : List Int) : List (List Int) → List Int → List (List Int)
  | q, [] => q
  | q, a :: ks => dFold M S (addQ q (dTo M S a)) ks
def dQ (L : Nat) (M : Mv) (z : List Int) : Nat → List (List Int)
  | 0 => [z]
  | i + 1 => if i < (dQ L M z i).length then dFold M ((dQ L M z i).getD i []) (dQ L M z i) (outL L M ((dQ L M z i).getD i [])) else dQ L M z i
def dAll (L : Nat) (M : Mv) (z : List Int) : List (List Int) := dQ L M z (2 ^ M.length)
def dNum (M : Mv) (q : List (List Int)) (S : List Int) (a : Int) : Int := if (stepL M S a).isEmpty = true then -1 else ((q.idxOf (dTo M S a) : Nat) : Int)
def dNx (L : Nat) (M : Mv) (q : List (List Int)) : List (List Int) := q.map fun S => (List.range L).map fun (a : Nat) => dNum M q S (a : Int)
def dFin (F : List Bool) (q : List (List Int)) : List Bool := q.map (finL F)

theorem dFold_snoc (M : Mv) (S : List Int) (a : Int) : ∀ (ks : List Int) (q : List (List Int)), dFold M S q (ks ++ [a]) = addQ (dFold M S q ks) (dTo M S a)
  | [], q => rfl
  | b :: ks, q => dFold_snoc M S a ks _
theorem dFold_app (M : Mv) (S : List Int) (ls : List Int) : ∀ (ks : List Int) (q : List (List Int)), dFold M S q (ks ++ ls) = dFold M S (dFold M S q ks) ls
  | [], q => rfl
  | b :: ks, q => dFold_app M S ls ks _
theorem addQ_pre (q : List (List Int)) (t : List Int) : ∃ u, addQ q t = q ++ u := by
  unfold addQ
  split
  · exact ⟨[], by simp⟩
  · exact ⟨_, rfl⟩
theorem addQ_has (q : List (List Int)) (t : List Int) : t ∈ addQ q t := by
  unfold addQ
  split
  · rename_i g; simpa using g
  · simp
theorem dFold_pre (M : Mv) (S : List Int) : ∀ (ks : List Int) (q : List (List Int)), ∃ u, dFold M S q ks = q ++ u
  | [], q => ⟨[], by simp [dFold]⟩
  | a :: ks, q => by
    obtain ⟨u, hu⟩ := addQ_pre q (dTo M S a)
    obtain ⟨v, hv⟩ := dFold_pre M S ks (addQ q (dTo M S a))
    exact ⟨u ++ v, by rw [dFold, hv, hu, List.append_assoc]⟩
theorem dFold_has (M : Mv) (S : List Int) {a : Int} : ∀ (ks : List Int) (q : List (List Int)), a ∈ ks → dTo M S a ∈ dFold M S q ks
  | [], q, h => by cases h
  | b :: ks, q, h => by
    rcases List.mem_cons.1 h with rfl | h
    · obtain ⟨u, hu⟩ := dFold_pre M S ks (addQ q (dTo M S a))
      rw [dFold, hu]
      exact List.mem_append_left _ (addQ_has q _)
    · exact dFold_has M S ks _ h

/-- All sets of so many. -/
def subsL : Nat → List (List Int)
  | 0 => [[]]
  | k + 1 => subsL k ++ (subsL k).map fun s => s ++ [(k : Int)]
theorem subsL_len : ∀ k, (subsL k).length = 2 ^ k
  | 0 => rfl
  | k + 1 => by rw [subsL, List.length_append, List.length_map, subsL_len k, Nat.pow_succ]; omega
theorem onL_subs (p : Nat → Bool) : ∀ k, onL k p ∈ subsL k
  | 0 => by simp [onL, subsL]
  | k + 1 => by
    rw [onL_succ, subsL, List.mem_append]
    split
    · exact .inr (List.mem_map.2 ⟨_, onL_subs p k, rfl⟩)
    · left; rw [List.append_nil]; exact onL_subs p k
theorem nd_sub {α : Type} [BEq α] [LawfulBEq α] {l m : List α} (h : l.Nodup) (hs : ∀ x ∈ l, x ∈ m) : l.length ≤ m.length := by
  have h1 : (l.map fun x => m.idxOf x).Nodup := by
    unfold List.Nodup
    rw [List.pairwise_map]
    refine List.Pairwise.imp_of_mem (fun {x y} hx hy hne e => hne ?_) h
    have g1 := List.getElem_idxOf (List.idxOf_lt_length_of_mem (hs x hx))
    have g2 := List.getElem_idxOf (List.idxOf_lt_length_of_mem (hs y hy))
    rw [← g1, ← g2]
    simp only [e]
  have h2 := nodup_len m.length _ h1 fun n hn => by
    obtain ⟨x, hx, rfl⟩ := List.mem_map.1 hn
    exact List.idxOf_lt_length_of_mem (hs x hx)
  simpa using h2

/-- Sets that are come to. -/
structure DI (M : Mv) (q : List (List Int)) : Prop where
  mem : ∀ S ∈ q, ∃ p, S = onL M.length p
  nd : q.Nodup
theorem DI.len {M : Mv} {q : List (List Int)} (h : DI M q) : q.length ≤ 2 ^ M.length := by
  rw [← subsL_len]
  refine nd_sub h.nd fun S hS => ?_
  obtain ⟨p, rfl⟩ := h.mem S hS
  exact onL_subs p _
theorem DI.add {M : Mv} {q : List (List Int)} (h : DI M q) (S : List Int) (a : Int) : DI M (addQ q (dTo M S a)) := by
  unfold addQ
  split
  · exact h
  · rename_i hn
    refine ⟨fun T hT => ?_, ?_⟩
    · rcases List.mem_append.1 hT with g | g
      · exact h.mem T g
      · rw [List.mem_singleton] at g; subst g; exact ⟨_, rfl⟩
    · rw [List.nodup_append]
      refine ⟨h.nd, by simp, fun x hx y hy => ?_⟩
      rw [List.mem_singleton] at hy
      subst hy
      rintro rfl
      exact hn (by simpa using hx)
theorem DI.fold {M : Mv} (S : List Int) : ∀ (ks : List Int) {q : List (List Int)}, DI M q → DI M (dFold M S q ks)
  | [], q, h => h
  | a :: ks, q, h => DI.fold S ks (h.add S a)
theorem DI.entry {M : Mv} {q : List (List Int)} (h : DI M q) {S : List Int} (hS : S ∈ q) : S.length ≤ M.length ∧ ∀ x ∈ S, 0 ≤ x ∧ x < (M.length : Int) := by
  obtain ⟨p, rfl⟩ := h.mem S hS
  refine ⟨onL_len _ _, fun x hx => ?_⟩
  obtain ⟨y, rfl, hy, _⟩ := onL_mem.1 hx
  omega
theorem dQ_di {L : Nat} {M : Mv} {z : List Int} (hz : ∃ p, z = onL M.length p) : ∀ i, DI M (dQ L M z i)
  | 0 => ⟨fun S hS => by simp only [dQ, List.mem_singleton] at hS; subst hS; exact hz, by simp [dQ]⟩
  | i + 1 => by
    rw [dQ]
    split
    · exact DI.fold _ _ (dQ_di hz i)
    · exact dQ_di hz i
theorem dQ_pre (L : Nat) (M : Mv) (z : List Int) (i : Nat) : ∃ u, dQ L M z (i + 1) = dQ L M z i ++ u := by
  rw [dQ]
  split
  · exact dFold_pre _ _ _ _
  · exact ⟨[], by simp⟩
theorem dQ_pre2 (L : Nat) (M : Mv) (z : List Int) (i : Nat) : ∀ j, ∃ u, dQ L M z (i + j) = dQ L M z i ++ u
  | 0 => ⟨[], by simp⟩
  | j + 1 => by
    obtain ⟨u, hu⟩ := dQ_pre2 L M z i j
    obtain ⟨v, hv⟩ := dQ_pre L M z (i + j)
    exact ⟨u ++ v, by rw [← Nat.add_assoc, hv, hu, List.append_assoc]⟩
theorem dQ_stop {L : Nat} {M : Mv} {z : List Int} {i : Nat} (hi : ¬ i < (dQ L M z i).length) : ∀ j, dQ L M z (i + j) = dQ L M z i
  | 0 => rfl
  | j + 1 => by
    have ih := dQ_stop hi j
    rw [← Nat.add_assoc, dQ, ih, if_neg (by omega)]

/-- All that is come to. -/
structure DA (L k : Nat) (M : Mv) (z : List Int) (Q : List (List Int)) : Prop where
  hM : MOk L k M
  hz : ∃ p, z = onL M.length p
  hQ : Q = dAll L M z
section
variable {L k : Nat} {M : Mv} {z : List Int} {Q : List (List Int)}
theorem DA.di (h : DA L k M z Q) (i : Nat) : DI M (dQ L M z i) := dQ_di h.hz i
theorem DA.diQ (h : DA L k M z Q) : DI M Q := by rw [h.hQ]; exact h.di _
theorem DA.lenQ (h : DA L k M z Q) : Q.length ≤ 2 ^ k := by have := h.diQ.len; rwa [h.hM.len] at this
theorem DA.end_ (h : DA L k M z Q) {i : Nat} (hi : i ≤ 2 ^ k) (hs : ¬ i < (dQ L M z i).length) : dQ L M z i = Q := by
  have := dQ_stop (L := L) (M := M) (z := z) hs (2 ^ k - i)
  rw [show i + (2 ^ k - i) = 2 ^ k by omega] at this
  rw [h.hQ, dAll, h.hM.len, this]
theorem DA.pre (h : DA L k M z Q) {i : Nat} (hi : i ≤ 2 ^ k) : ∃ u, Q = dQ L M z i ++ u := by
  obtain ⟨u, hu⟩ := dQ_pre2 L M z i (2 ^ k - i)
  rw [show i + (2 ^ k - i) = 2 ^ k by omega] at hu
  exact ⟨u, by rw [h.hQ, dAll, h.hM.len, hu]⟩
theorem DA.lt (h : DA L k M z Q) {i : Nat} (hi : i < Q.length) : i < (dQ L M z i).length := by
  by_cases g : i < (dQ L M z i).length
  · exact g
  · have hk := h.lenQ
    have := h.end_ (by omega) g
    rw [this] at g; omega
theorem DA.at_ (h : DA L k M z Q) {i : Nat} (hi : i < Q.length) : (dQ L M z i).getD i [] = Q.getD i [] := by
  have hk := h.lenQ
  obtain ⟨u, hu⟩ := h.pre (i := i) (by omega)
  rw [hu, getD_app_lt (h.lt hi)]
theorem DA.row (h : DA L k M z Q) {i : Nat} (hi : i < Q.length) {ks ls : List Int} (hk : outL L M (Q.getD i []) = ks ++ ls) : ∃ u, Q = dFold M (Q.getD i []) (dQ L M z i) ks ++ u := by
  have hk' := h.lenQ
  obtain ⟨u, hu⟩ := h.pre (i := i + 1) (by omega)
  rw [dQ, if_pos (h.lt hi), h.at_ hi, hk, dFold_app] at hu
  obtain ⟨v, hv⟩ := dFold_pre M (Q.getD i []) ls (dFold M (Q.getD i []) (dQ L M z i) ks)
  rw [hv, List.append_assoc] at hu
  exact ⟨_, hu⟩
theorem outL_iff (a : Int) (S : List Int) : a ∈ outL L M S ↔ ∃ y : Nat, a = (y : Int) ∧ y < L ∧ (stepL M S a).isEmpty = false := by
  unfold outL
  rw [onL_mem]
  constructor
  · rintro ⟨y, rfl, h1, h2⟩; exact ⟨y, rfl, h1, by simpa using h2⟩
  · rintro ⟨y, rfl, h1, h2⟩; exact ⟨y, rfl, h1, by simpa using h2⟩
theorem DA.has (h : DA L k M z Q) {i a : Nat} (hi : i < Q.length) (ha : a < L) (hs : (stepL M (Q.getD i []) (a : Int)).isEmpty = false) : dTo M (Q.getD i []) (a : Int) ∈ Q := by
  obtain ⟨u, hu⟩ := h.row hi (ks := outL L M (Q.getD i [])) (ls := []) (by simp)
  have := dFold_has M (Q.getD i []) (outL L M (Q.getD i [])) (dQ L M z i) ((outL_iff _ _).2 ⟨a, rfl, ha, hs⟩)
  have h2 := List.mem_append_left u this
  rw [← hu] at h2
  exact h2
theorem DA.q0 (h : DA L k M z Q) : 0 < Q.length ∧ Q.getD 0 [] = z := by
  obtain ⟨u, hu⟩ := h.pre (i := 0) (Nat.zero_le _)
  rw [hu]
  simp [dQ]
theorem getD_mapD {α β : Type} (f : α → β) (d : β) (e : α) {q : List α} {i : Nat} (h : i < q.length) : (q.map f).getD i d = f (q.getD i e) := by
  simp [List.getD, List.getElem?_eq_getElem h]
theorem DA.num (h : DA L k M z Q) {i a : Nat} (hi : i < Q.length) (ha : a < L) : -1 ≤ dNum M Q (Q.getD i []) (a : Int) ∧ dNum M Q (Q.getD i []) (a : Int) < (Q.length : Int) := by
  unfold dNum
  split
  · omega
  · rename_i hs
    have := List.idxOf_lt_length_of_mem (h.has hi ha (by simpa using hs))
    omega
theorem DA.ok (h : DA L k M z Q) : NOk L Q.length (dNx L M Q) := by
  refine ⟨by simp [dNx], fun r hr => ?_⟩
  unfold dNx at hr
  obtain ⟨S, hS, rfl⟩ := List.mem_map.1 hr
  obtain ⟨i, hi, rfl⟩ := List.getElem_of_mem hS
  refine ⟨by simp, fun t ht => ?_⟩
  obtain ⟨a, ha, rfl⟩ := List.mem_map.1 ht
  have ha := List.mem_range.1 ha
  have e : Q[i] = Q.getD i [] := by simp [List.getD, List.getElem?_eq_getElem hi]
  rw [e]
  exact h.num hi ha
theorem DA.cell (h : DA L k M z Q) {i a : Nat} (hi : i < Q.length) (ha : a < L) : ((dNx L M Q).getD i []).getD a 0 = dNum M Q (Q.getD i []) (a : Int) := by
  unfold dNx
  rw [getD_mapD _ _ [] hi]
  simp [List.getD, ha]
end
end Go.Proofs.Ytbhjmioegdgpnaa
