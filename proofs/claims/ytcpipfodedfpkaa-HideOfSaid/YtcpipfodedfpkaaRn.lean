import Derived.Test.YtcpipfodedfpkaaClo
import Derived.Test.YtcpipfodedfpkaaMo
import Derived.Test.YtcpipfodedfpkaaCl
import Derived.Test.YtcpipfodedfpkaaTy
import Derived.Test.YtcpipfodedfpkaaLv
set_option linter.unusedSimpArgs false
set_option linter.unusedVariables false
namespace Go.Proofs.Ytcpipfodedfpkaa
open Go.Ab
def dTo (M : Mv) (S : List Int) (a : Int) : List Int := cloL M (stepL M S a)
def addQ (q : List (List Int)) (t : List Int) : List (List Int) := if q.contains t = true then q else q ++ [t]
def dFold (M : Mv) (S : List Int) : List (List Int) → List Int → List (List Int)
  | q, [] => q
  | q, a :: ks => dFold M S (addQ q (dTo M S a)) ks
def dQ (L : Nat) (M : Mv) (z : List Int) : Nat → List (List Int)
  | 0 => [z]
  | i + 1 => if i < (dQ L M z i).length then dFold M ((dQ L M z i).getD i []) (dQ L M z i) (outL L M ((dQ L M z i).getD i [])) else dQ L M z i
def dAll (L : Nat) (M : Mv) (z : List Int) : List (List Int) := dQ L M z (2 ^ M.length)
def dNum (M : Mv) (q : List (List Int)) (S : List Int) (a : Int) : Int := if (stepL M S a).isEmpty = true then -1 else ((q.idxOf (dTo M S a) : Nat) : Int)
def dNx (L : Nat) (M : Mv) (q : List (List Int)) : List (List Int) := q.map fun S => (List.range L).map fun (a : Nat) => dNum M q S (a : Int)
def dFin (F : List Bool) (q : List (List Int)) : List Bool := q.map (finL F)
theorem dFold_snoc (M : Mv) (S : List Int) (a : Int) : ∀ (ks : List Int) (q : List (List Int)), dFold M S q (ks ++ [a]) = addQ (dFold M S q ks) (dTo M S a)
  | [], q => rfl
  | b :: ks, q => dFold_snoc M S a ks _
theorem dFold_app (M : Mv) (S : List Int) (ls : List Int) : ∀ (ks : List Int) (q : List (List Int)), dFold M S q (ks ++ ls) = dFold M S (dFold M S q ks) ls
  | [], q => rfl
  | b :: ks, q => dFold_app M S ls ks _
theorem addQ_pre (q : List (List Int)) (t : List Int) : ∃ u, addQ q t = q ++ u := by
  unfold addQ
  split
  · exact ⟨[], by simp⟩
  · exact ⟨_, rfl⟩
theorem addQ_has (q : List (List Int)) (t : List Int) : t ∈ addQ q t := by
  unfold addQ
  split
  · rename_i g; simpa using g
  · simp
theorem dFold_pre (M : Mv) (S : List Int) : ∀ (ks : List Int) (q : List (List Int)), ∃ u, dFold M S q ks = q ++ u
  | [], q => ⟨[], by simp [dFold]⟩
  | a :: ks, q => by
    obtain ⟨u, hu⟩ := addQ_pre q (dTo M S a)
    obtain ⟨v, hv⟩ := dFold_pre M S ks (addQ q (dTo M S a))
    exact ⟨u ++ v, by rw [dFold, hv, hu, List.append_assoc]⟩
theorem dFold_has (M : Mv) (S : List Int) {a : Int} : ∀ (ks : List Int) (q : List (List Int)), a ∈ ks → dTo M S a ∈ dFold M S q ks
  | [], q, h => by cases h
  | b :: ks, q, h => by
    rcases List.mem_cons.1 h with rfl | h
    · obtain ⟨u, hu⟩ := dFold_pre M S ks (addQ q (dTo M S a))
      rw [dFold, hu]
      exact List.mem_append_left _ (addQ_has q _)
    · exact dFold_has M S ks _ h
def subsL : Nat → List (List Int)
  | 0 => [[]]
  | k + 1 => subsL k ++ (subsL k).map fun s => s ++ [(k : Int)]
theorem subsL_len : ∀ k, (subsL k).length = 2 ^ k
  | 0 => rfl
  | k + 1 => by rw [subsL, List.length_append, List.length_map, subsL_len k, Nat.pow_succ]; omega
theorem onL_subs (p : Nat → Bool) : ∀ k, onL k p ∈ subsL k
  | 0 => by simp [onL, subsL]
  | k + 1 => by
    rw [onL_succ, subsL, List.mem_append]
    split
    · exact .inr (List.mem_map.2 ⟨_, onL_subs p k, rfl⟩)
    · left; rw [List.append_nil]; exact onL_subs p k
theorem nd_sub {α : Type} [BEq α] [LawfulBEq α] {l m : List α} (h : l.Nodup) (hs : ∀ x ∈ l, x ∈ m) : l.length ≤ m.length := by
  have h1 : (l.map fun x => m.idxOf x).Nodup := by
    unfold List.Nodup
    rw [List.pairwise_map]
    refine List.Pairwise.imp_of_mem (fun {x y} hx hy hne e => hne ?_) h
    have g1 := List.getElem_idxOf (List.idxOf_lt_length_of_mem (hs x hx))
    have g2 := List.getElem_idxOf (List.idxOf_lt_length_of_mem (hs y hy))
    rw [← g1, ← g2]
    simp only [e]
  have h2 := nodup_len m.length _ h1 fun n hn => by
    obtain ⟨x, hx, rfl⟩ := List.mem_map.1 hn
    exact List.idxOf_lt_length_of_mem (hs x hx)
  simpa using h2
structure DI (M : Mv) (q : List (List Int)) : Prop where
  mem : ∀ S ∈ q, ∃ p, S = onL M.length p
  nd : q.Nodup
theorem DI.len {M : Mv} {q : List (List Int)} (h : DI M q) : q.length ≤ 2 ^ M.length := by
  rw [← subsL_len]
  refine nd_sub h.nd fun S hS => ?_
  obtain ⟨p, rfl⟩ := h.mem S hS
  exact onL_subs p _
theorem DI.add {M : Mv} {q : List (List Int)} (h : DI M q) (S : List Int) (a : Int) : DI M (addQ q (dTo M S a)) := by
  unfold addQ
  split
  · exact h
  · rename_i hn
    refine ⟨fun T hT => ?_, ?_⟩
    · rcases List.mem_append.1 hT with g | g
      · exact h.mem T g
      · rw [List.mem_singleton] at g; subst g; exact ⟨_, rfl⟩
    · rw [List.nodup_append]
      refine ⟨h.nd, by simp, fun x hx y hy => ?_⟩
      rw [List.mem_singleton] at hy
      subst hy
      rintro rfl
      exact hn (by simpa using hx)
theorem DI.fold {M : Mv} (S : List Int) : ∀ (ks : List Int) {q : List (List Int)}, DI M q → DI M (dFold M S q ks)
  | [], q, h => h
  | a :: ks, q, h => DI.fold S ks (h.add S a)
theorem DI.entry {M : Mv} {q : List (List Int)} (h : DI M q) {S : List Int} (hS : S ∈ q) : S.length ≤ M.length ∧ ∀ x ∈ S, 0 ≤ x ∧ x < (M.length : Int) := by
  obtain ⟨p, rfl⟩ := h.mem S hS
  refine ⟨onL_len _ _, fun x hx => ?_⟩
  obtain ⟨y, rfl, hy, _⟩ := onL_mem.1 hx
  omega
theorem dQ_di {L : Nat} {M : Mv} {z : List Int} (hz : ∃ p, z = onL M.length p) : ∀ i, DI M (dQ L M z i)
  | 0 => ⟨fun S hS => by simp only [dQ, List.mem_singleton] at hS; subst hS; exact hz, by simp [dQ]⟩
  | i + 1 => by
    rw [dQ]
    split
    · exact DI.fold _ _ (dQ_di hz i)
    · exact dQ_di hz i
theorem dQ_pre (L : Nat) (M : Mv) (z : List Int) (i : Nat) : ∃ u, dQ L M z (i + 1) = dQ L M z i ++ u := by
  rw [dQ]
  split
  · exact dFold_pre _ _ _ _
  · exact ⟨[], by simp⟩
theorem dQ_pre2 (L : Nat) (M : Mv) (z : List Int) (i : Nat) : ∀ j, ∃ u, dQ L M z (i + j) = dQ L M z i ++ u
  | 0 => ⟨[], by simp⟩
  | j + 1 => by
    obtain ⟨u, hu⟩ := dQ_pre2 L M z i j
    obtain ⟨v, hv⟩ := dQ_pre L M z (i + j)
    exact ⟨u ++ v, by rw [← Nat.add_assoc, hv, hu, List.append_assoc]⟩
theorem dQ_stop {L : Nat} {M : Mv} {z : List Int} {i : Nat} (hi : ¬ i < (dQ L M z i).length) : ∀ j, dQ L M z (i + j) = dQ L M z i
  | 0 => rfl
  | j + 1 => by
    have ih := dQ_stop hi j
    rw [← Nat.add_assoc, dQ, ih, if_neg (by omega)]
structure DA (L k : Nat) (M : Mv) (z : List Int) (Q : List (List Int)) : Prop where
  hM : MOk L k M
  hz : ∃ p, z = onL M.length p
  hQ : Q = dAll L M z
section
variable {L k : Nat} {M : Mv} {z : List Int} {Q : List (List Int)}
theorem DA.di (h : DA L k M z Q) (i : Nat) : DI M (dQ L M z i) := dQ_di h.hz i
theorem DA.diQ (h : DA L k M z Q) : DI M Q := by rw [h.hQ]; exact h.di _
theorem DA.lenQ (h : DA L k M z Q) : Q.length ≤ 2 ^ k := by have := h.diQ.len; rwa [h.hM.len] at this
theorem DA.end_ (h : DA L k M z Q) {i : Nat} (hi : i ≤ 2 ^ k) (hs : ¬ i < (dQ L M z i).length) : dQ L M z i = Q := by
  have := dQ_stop (L := L) (M := M) (z := z) hs (2 ^ k - i)
  rw [show i + (2 ^ k - i) = 2 ^ k by omega] at this
  rw [h.hQ, dAll, h.hM.len, this]
theorem DA.pre (h : DA L k M z Q) {i : Nat} (hi : i ≤ 2 ^ k) : ∃ u, Q = dQ L M z i ++ u := by
  obtain ⟨u, hu⟩ := dQ_pre2 L M z i (2 ^ k - i)
  rw [show i + (2 ^ k - i) = 2 ^ k by omega] at hu
  exact ⟨u, by rw [h.hQ, dAll, h.hM.len, hu]⟩
theorem DA.lt (h : DA L k M z Q) {i : Nat} (hi : i < Q.length) : i < (dQ L M z i).length := by
  by_cases g : i < (dQ L M z i).length
  · exact g
  · have hk := h.lenQ
    have := h.end_ (by omega) g
    rw [this] at g; omega
theorem DA.at_ (h : DA L k M z Q) {i : Nat} (hi : i < Q.length) : (dQ L M z i).getD i [] = Q.getD i [] := by
  have hk := h.lenQ
  obtain ⟨u, hu⟩ := h.pre (i := i) (by omega)
  rw [hu, getD_app_lt (h.lt hi)]
theorem DA.row (h : DA L k M z Q) {i : Nat} (hi : i < Q.length) {ks ls : List Int} (hk : outL L M (Q.getD i []) = ks ++ ls) : ∃ u, Q = dFold M (Q.getD i []) (dQ L M z i) ks ++ u := by
  have hk' := h.lenQ
  obtain ⟨u, hu⟩ := h.pre (i := i + 1) (by omega)
  rw [dQ, if_pos (h.lt hi), h.at_ hi, hk, dFold_app] at hu
  obtain ⟨v, hv⟩ := dFold_pre M (Q.getD i []) ls (dFold M (Q.getD i []) (dQ L M z i) ks)
  rw [hv, List.append_assoc] at hu
  exact ⟨_, hu⟩
theorem outL_iff (a : Int) (S : List Int) : a ∈ outL L M S ↔ ∃ y : Nat, a = (y : Int) ∧ y < L ∧ (stepL M S a).isEmpty = false := by
  unfold outL
  rw [onL_mem]
  constructor
  · rintro ⟨y, rfl, h1, h2⟩; exact ⟨y, rfl, h1, by simpa using h2⟩
  · rintro ⟨y, rfl, h1, h2⟩; exact ⟨y, rfl, h1, by simpa using h2⟩
theorem DA.has (h : DA L k M z Q) {i a : Nat} (hi : i < Q.length) (ha : a < L) (hs : (stepL M (Q.getD i []) (a : Int)).isEmpty = false) : dTo M (Q.getD i []) (a : Int) ∈ Q := by
  obtain ⟨u, hu⟩ := h.row hi (ks := outL L M (Q.getD i [])) (ls := []) (by simp)
  have := dFold_has M (Q.getD i []) (outL L M (Q.getD i [])) (dQ L M z i) ((outL_iff _ _).2 ⟨a, rfl, ha, hs⟩)
  have h2 := List.mem_append_left u this
  rw [← hu] at h2
  exact h2
theorem DA.q0 (h : DA L k M z Q) : 0 < Q.length ∧ Q.getD 0 [] = z := by
  obtain ⟨u, hu⟩ := h.pre (i := 0) (Nat.zero_le _)
  rw [hu]
  simp [dQ]
theorem getD_mapD {α β : Type} (f : α → β) (d : β) (e : α) {q : List α} {i : Nat} (h : i < q.length) : (q.map f).getD i d = f (q.getD i e) := by
  simp [List.getD, List.getElem?_eq_getElem h]
theorem DA.num (h : DA L k M z Q) {i a : Nat} (hi : i < Q.length) (ha : a < L) : -1 ≤ dNum M Q (Q.getD i []) (a : Int) ∧ dNum M Q (Q.getD i []) (a : Int) < (Q.length : Int) := by
  unfold dNum
  split
  · omega
  · rename_i hs
    have := List.idxOf_lt_length_of_mem (h.has hi ha (by simpa using hs))
    omega
theorem DA.ok (h : DA L k M z Q) : NOk L Q.length (dNx L M Q) := by
  refine ⟨by simp [dNx], fun r hr => ?_⟩
  unfold dNx at hr
  obtain ⟨S, hS, rfl⟩ := List.mem_map.1 hr
  obtain ⟨i, hi, rfl⟩ := List.getElem_of_mem hS
  refine ⟨by simp, fun t ht => ?_⟩
  obtain ⟨a, ha, rfl⟩ := List.mem_map.1 ht
  have ha := List.mem_range.1 ha
  have e : Q[i] = Q.getD i [] := by simp [List.getD, List.getElem?_eq_getElem hi]
  rw [e]
  exact h.num hi ha
theorem DA.cell (h : DA L k M z Q) {i a : Nat} (hi : i < Q.length) (ha : a < L) : ((dNx L M Q).getD i []).getD a 0 = dNum M Q (Q.getD i []) (a : Int) := by
  unfold dNx
  rw [getD_mapD _ _ [] hi]
  simp [List.getD, ha]
end
theorem cloL_nil (M : Mv) {L k : Nat} (h : MOk L k M) : cloL M [] = [] := by
  cases hc : cloL M [] with
  | nil => rfl
  | cons x t =>
    exfalso
    obtain ⟨y, hxy, hy⟩ := (cloL_mem h (l := []) (x := x)).1 (by rw [hc]; simp)
    clear hxy
    induction hy with
    | base h _ => cases h
    | step _ _ _ ih => exact ih
theorem stepL_nil {L k : Nat} {M : Mv} (h : MOk L k M) (a : Int) : stepL M [] a = [] := by
  cases hc : stepL M [] a with
  | nil => rfl
  | cons x t =>
    exfalso
    obtain ⟨i, hi, _⟩ := (stepL_mem h).1 (show x ∈ stepL M [] a by rw [hc]; simp)
    cases hi
theorem takS_nil {L k : Nat} {M : Mv} (h : MOk L k M) : ∀ w : List Int, takS M [] w = []
  | [] => rfl
  | a :: w => by rw [takS, stepL_nil h, cloL_nil M h, takS_nil h w]
theorem stepL_far {L k : Nat} {M : Mv} (h : MOk L k M) (S : List Int) {a : Int} (ha : (L : Int) ≤ a) : stepL M S a = [] := by
  cases hc : stepL M S a with
  | nil => rfl
  | cons x t =>
    exfalso
    obtain ⟨i, _, hm⟩ := (stepL_mem h).1 (show x ∈ stepL M S a by rw [hc]; simp)
    have := h.get i _ hm
    simp only at this
    omega
set_option maxHeartbeats 4000000 in
theorem c_IdxMv (g : Nat) (row : List D) (hg : FnOk Try.prog g) (f : Bool) (l : List (Int × Int)) (hl : l.length ≤ 100000) (hp : ∀ x ∈ l, Contract Try.prog g [.agg [i64 x.1, i64 x.2], .ref row 0] (bo false) []) :
    Contract Try.prog 94 [.sl f (mvs l), .fn (.func g) 0 [.ref row 0]] (i64 (-1)) [] := by
  refine contract_of_awp (rs := [4]) Try.func94 rfl Try.ntmps94 (by simp) rfl fun E => ?_
  (repeat (first | refine awp_seq ?_ | refine awp_block ?_ | ((first | refine awp_skip ?_ | refine awp_exit ?_ | refine awp_reg ttok ?_ | (refine awp_draw ttok ?dr_calm ?_; (case dr_calm => decide +kernel)) | refine awp_condM ?_); simp (maxSteps := 4000000) only [↓reduceIte, Nat.reduceLT, Nat.reduceEqDiff, reduceCtorEq, Nat.reduceAdd, Nat.reduceMul, Int.reduceLE, Int.reduceLT, Int.reduceToNat, Nat.reduceLeDiff, Nat.reduceSub, Int.reduceEq, Nat.reduceBEq, List.replicate, List.set, evB, tyA, mvs_len]; (repeat (with_reducible refine And.intro ?_ ?_; exact sdX)); (with_reducible first | refine awp_id ?_ | refine id_call ?_ | refine id_and ?_ | refine id_ex ?_ | refine id_all ?_ | refine id_nat ?_ | refine id_le ?_))))
  refine awp_loop (X := Nat) (fun i => mkS 19 [(0, .sl f (mvs l)), (1, .fn (.func g) 0 [.ref row 0]), (7, i64 l.length), (8, i64 i)] []) (fun i => i ≤ l.length) (fun i => l.length - i) 0 (Nat.zero_le _) (mkS_le rfl ?_ trivial) ?_
  · simp (maxSteps := 4000000) only [↓reduceIte, Nat.reduceLT, Nat.reduceEqDiff, reduceCtorEq, Nat.reduceAdd, Nat.reduceMul, Int.reduceLE, Int.reduceLT, Int.reduceToNat, Nat.reduceLeDiff, Nat.reduceSub, Int.reduceEq, Nat.reduceBEq, List.replicate, List.set, evB]
    try rfl
  · intro i hi
    by_cases hlt : i < l.length
    · have d1 : decide ((i : Int) < (l.length : Int)) = true := by simpa using hlt
      have gi := mvs_get hlt
      have hpx := hp _ (getD_mem hlt (0, 0))
      generalize l.getD i (0, 0) = x at gi hpx
      have hwi : IntKind.i64.wrap ((i : Int) + 1) = ((i + 1 : Nat) : Int) := i64_in (by omega) (by omega)
      (repeat (first | refine awp_seq ?_ | refine awp_block ?_ | ((first | refine awp_skip ?_ | refine awp_exit ?_ | refine awp_reg ttok ?_ | (refine awp_draw ttok ?dr_calm ?_; (case dr_calm => decide +kernel)) | refine awp_condM ?_); simp (maxSteps := 4000000) only [↓reduceIte, Nat.reduceLT, Nat.reduceEqDiff, reduceCtorEq, Nat.reduceAdd, Nat.reduceMul, Int.reduceLE, Int.reduceLT, Int.reduceToNat, Nat.reduceLeDiff, Nat.reduceSub, Int.reduceEq, Nat.reduceBEq, List.replicate, List.set, evB, tyA, d1, gi, mvs_len]; (repeat (with_reducible refine And.intro ?_ ?_; exact sdX)); (with_reducible first | refine awp_id ?_ | refine id_call ?_ | refine id_and ?_ | refine id_ex ?_ | refine id_all ?_ | refine id_nat ?_ | refine id_le ?_))))
      refine callVC_scal hg hpx rfl ?_
      simp (maxSteps := 4000000) only [↓reduceIte, Nat.reduceLT, Nat.reduceEqDiff, reduceCtorEq, Nat.reduceAdd, Nat.reduceMul, Int.reduceLE, Int.reduceLT, Int.reduceToNat, Nat.reduceLeDiff, Nat.reduceSub, Int.reduceEq, Nat.reduceBEq, List.replicate, List.set, evB, tyA]
      (repeat (with_reducible refine And.intro ?_ ?_; exact sdX))
      (repeat (first | refine awp_seq ?_ | refine awp_block ?_ | ((first | refine awp_skip ?_ | refine awp_exit ?_ | refine awp_reg ttok ?_ | (refine awp_draw ttok ?dr_calm ?_; (case dr_calm => decide +kernel)) | refine awp_condM ?_); simp (maxSteps := 4000000) only [↓reduceIte, Nat.reduceLT, Nat.reduceEqDiff, reduceCtorEq, Nat.reduceAdd, Nat.reduceMul, Int.reduceLE, Int.reduceLT, Int.reduceToNat, Nat.reduceLeDiff, Nat.reduceSub, Int.reduceEq, Nat.reduceBEq, List.replicate, List.set, evB, tyA, hwi]; (repeat (with_reducible refine And.intro ?_ ?_; exact sdX)); (with_reducible first | refine awp_id ?_ | refine id_call ?_ | refine id_and ?_ | refine id_ex ?_ | refine id_all ?_ | refine id_nat ?_ | refine id_le ?_))))
      refine ⟨i + 1, by omega, by omega, mkS_le rfl ?_ trivial⟩
      simp (maxSteps := 4000000) only [↓reduceIte, Nat.reduceLT, Nat.reduceEqDiff, reduceCtorEq, Nat.reduceAdd, Nat.reduceMul, Int.reduceLE, Int.reduceLT, Int.reduceToNat, Nat.reduceLeDiff, Nat.reduceSub, Int.reduceEq, Nat.reduceBEq, List.replicate, List.set, evB]
    · have d1 : decide ((i : Int) < (l.length : Int)) = false := by simpa using hlt
      (repeat (first | refine awp_seq ?_ | refine awp_block ?_ | ((first | refine awp_skip ?_ | refine awp_exit ?_ | refine awp_reg ttok ?_ | (refine awp_draw ttok ?dr_calm ?_; (case dr_calm => decide +kernel)) | refine awp_condM ?_); simp (maxSteps := 4000000) only [↓reduceIte, Nat.reduceLT, Nat.reduceEqDiff, reduceCtorEq, Nat.reduceAdd, Nat.reduceMul, Int.reduceLE, Int.reduceLT, Int.reduceToNat, Nat.reduceLeDiff, Nat.reduceSub, Int.reduceEq, Nat.reduceBEq, List.replicate, List.set, evB, tyA, d1]; (repeat (with_reducible refine And.intro ?_ ?_; exact sdX)); (with_reducible first | refine awp_id ?_ | refine id_call ?_ | refine id_and ?_ | refine id_ex ?_ | refine id_all ?_ | refine id_nat ?_ | refine id_le ?_))))
      exact awp_ret (ends_plain (.inr rfl) rfl evX)
theorem c_CtMv (g : Nat) (row : List D) (hg : FnOk Try.prog g) (f : Bool) (l : List (Int × Int)) (hl : l.length ≤ 100000) (hp : ∀ x ∈ l, Contract Try.prog g [.agg [i64 x.1, i64 x.2], .ref row 0] (bo false) []) :
    Contract Try.prog 85 [.sl f (mvs l), .fn (.func g) 0 [.ref row 0]] (bo false) [] := by
  refine contract_of_awp (rs := [4]) Try.func85 rfl Try.ntmps85 (by simp) rfl fun E => ?_
  have e : decide ((-1 : Int) ≥ 0) = false := rfl
  (repeat (first | refine awp_seq ?_ | refine awp_block ?_ | ((first | refine awp_skip ?_ | refine awp_exit ?_ | refine awp_reg ttok ?_ | (refine awp_draw ttok ?dr_calm ?_; (case dr_calm => decide +kernel)) | refine awp_condM ?_); simp (maxSteps := 4000000) only [↓reduceIte, Nat.reduceLT, Nat.reduceEqDiff, reduceCtorEq, Nat.reduceAdd, Nat.reduceMul, Int.reduceLE, Int.reduceLT, Int.reduceToNat, Nat.reduceLeDiff, Nat.reduceSub, Int.reduceEq, Nat.reduceBEq, List.replicate, List.set, evB, tyA]; (repeat (with_reducible refine And.intro ?_ ?_; exact sdX)); (with_reducible first | refine awp_id ?_ | refine id_call ?_ | refine id_and ?_ | refine id_ex ?_ | refine id_all ?_ | refine id_nat ?_ | refine id_le ?_))))
  refine callVC_scal fnok94 (c_IdxMv g row hg f l hl hp) rfl ?_
  simp (maxSteps := 4000000) only [↓reduceIte, Nat.reduceLT, Nat.reduceEqDiff, reduceCtorEq, Nat.reduceAdd, Nat.reduceMul, Int.reduceLE, Int.reduceLT, Int.reduceToNat, Nat.reduceLeDiff, Nat.reduceSub, Int.reduceEq, Nat.reduceBEq, List.replicate, List.set, evB, tyA, e]
  (repeat (with_reducible refine And.intro ?_ ?_; exact sdX))
  (repeat (first | refine awp_seq ?_ | refine awp_block ?_ | ((first | refine awp_skip ?_ | refine awp_exit ?_ | refine awp_reg ttok ?_ | (refine awp_draw ttok ?dr_calm ?_; (case dr_calm => decide +kernel)) | refine awp_condM ?_); simp (maxSteps := 4000000) only [↓reduceIte, Nat.reduceLT, Nat.reduceEqDiff, reduceCtorEq, Nat.reduceAdd, Nat.reduceMul, Int.reduceLE, Int.reduceLT, Int.reduceToNat, Nat.reduceLeDiff, Nat.reduceSub, Int.reduceEq, Nat.reduceBEq, List.replicate, List.set, evB, tyA, e]; (repeat (with_reducible refine And.intro ?_ ?_; exact sdX)); (with_reducible first | refine awp_id ?_ | refine id_call ?_ | refine id_and ?_ | refine id_ex ?_ | refine id_all ?_ | refine id_nat ?_ | refine id_le ?_))))
  exact awp_ret (ends_plain (.inr rfl) rfl evX)
set_option maxHeartbeats 4000000 in
theorem c_IdxMM (g : Nat) (row : List D) (hg : FnOk Try.prog g) (f : Bool) (l : List (List (Int × Int))) (hl : l.length ≤ 100000) (hp : ∀ x ∈ l, Contract Try.prog g [.sl false (mvs x), .ref row 0] (bo false) []) :
    Contract Try.prog 93 [.sl f (mmv l), .fn (.func g) 0 [.ref row 0]] (i64 (-1)) [] := by
  refine contract_of_awp (rs := [4]) Try.func93 rfl Try.ntmps93 (by simp) rfl fun E => ?_
  (repeat (first | refine awp_seq ?_ | refine awp_block ?_ | ((first | refine awp_skip ?_ | refine awp_exit ?_ | refine awp_reg ttok ?_ | (refine awp_draw ttok ?dr_calm ?_; (case dr_calm => decide +kernel)) | refine awp_condM ?_); simp (maxSteps := 4000000) only [↓reduceIte, Nat.reduceLT, Nat.reduceEqDiff, reduceCtorEq, Nat.reduceAdd, Nat.reduceMul, Int.reduceLE, Int.reduceLT, Int.reduceToNat, Nat.reduceLeDiff, Nat.reduceSub, Int.reduceEq, Nat.reduceBEq, List.replicate, List.set, evB, tyA, mmv_len]; (repeat (with_reducible refine And.intro ?_ ?_; exact sdX)); (with_reducible first | refine awp_id ?_ | refine id_call ?_ | refine id_and ?_ | refine id_ex ?_ | refine id_all ?_ | refine id_nat ?_ | refine id_le ?_))))
  refine awp_loop (X := Nat) (fun i => mkS 19 [(0, .sl f (mmv l)), (1, .fn (.func g) 0 [.ref row 0]), (7, i64 l.length), (8, i64 i)] []) (fun i => i ≤ l.length) (fun i => l.length - i) 0 (Nat.zero_le _) (mkS_le rfl ?_ trivial) ?_
  · simp (maxSteps := 4000000) only [↓reduceIte, Nat.reduceLT, Nat.reduceEqDiff, reduceCtorEq, Nat.reduceAdd, Nat.reduceMul, Int.reduceLE, Int.reduceLT, Int.reduceToNat, Nat.reduceLeDiff, Nat.reduceSub, Int.reduceEq, Nat.reduceBEq, List.replicate, List.set, evB]
    try rfl
  · intro i hi
    by_cases hlt : i < l.length
    · have d1 : decide ((i : Int) < (l.length : Int)) = true := by simpa using hlt
      have gi := mmv_get hlt
      have hpx := hp _ (getD_mem hlt [])
      generalize l.getD i [] = x at gi hpx
      have hwi : IntKind.i64.wrap ((i : Int) + 1) = ((i + 1 : Nat) : Int) := i64_in (by omega) (by omega)
      (repeat (first | refine awp_seq ?_ | refine awp_block ?_ | ((first | refine awp_skip ?_ | refine awp_exit ?_ | refine awp_reg ttok ?_ | (refine awp_draw ttok ?dr_calm ?_; (case dr_calm => decide +kernel)) | refine awp_condM ?_); simp (maxSteps := 4000000) only [↓reduceIte, Nat.reduceLT, Nat.reduceEqDiff, reduceCtorEq, Nat.reduceAdd, Nat.reduceMul, Int.reduceLE, Int.reduceLT, Int.reduceToNat, Nat.reduceLeDiff, Nat.reduceSub, Int.reduceEq, Nat.reduceBEq, List.replicate, List.set, evB, tyA, d1, gi, mmv_len]; (repeat (with_reducible refine And.intro ?_ ?_; exact sdX)); (with_reducible first | refine awp_id ?_ | refine id_call ?_ | refine id_and ?_ | refine id_ex ?_ | refine id_all ?_ | refine id_nat ?_ | refine id_le ?_))))
      refine callVC_scal hg hpx rfl ?_
      simp (maxSteps := 4000000) only [↓reduceIte, Nat.reduceLT, Nat.reduceEqDiff, reduceCtorEq, Nat.reduceAdd, Nat.reduceMul, Int.reduceLE, Int.reduceLT, Int.reduceToNat, Nat.reduceLeDiff, Nat.reduceSub, Int.reduceEq, Nat.reduceBEq, List.replicate, List.set, evB, tyA]
      (repeat (with_reducible refine And.intro ?_ ?_; exact sdX))
      (repeat (first | refine awp_seq ?_ | refine awp_block ?_ | ((first | refine awp_skip ?_ | refine awp_exit ?_ | refine awp_reg ttok ?_ | (refine awp_draw ttok ?dr_calm ?_; (case dr_calm => decide +kernel)) | refine awp_condM ?_); simp (maxSteps := 4000000) only [↓reduceIte, Nat.reduceLT, Nat.reduceEqDiff, reduceCtorEq, Nat.reduceAdd, Nat.reduceMul, Int.reduceLE, Int.reduceLT, Int.reduceToNat, Nat.reduceLeDiff, Nat.reduceSub, Int.reduceEq, Nat.reduceBEq, List.replicate, List.set, evB, tyA, hwi]; (repeat (with_reducible refine And.intro ?_ ?_; exact sdX)); (with_reducible first | refine awp_id ?_ | refine id_call ?_ | refine id_and ?_ | refine id_ex ?_ | refine id_all ?_ | refine id_nat ?_ | refine id_le ?_))))
      refine ⟨i + 1, by omega, by omega, mkS_le rfl ?_ trivial⟩
      simp (maxSteps := 4000000) only [↓reduceIte, Nat.reduceLT, Nat.reduceEqDiff, reduceCtorEq, Nat.reduceAdd, Nat.reduceMul, Int.reduceLE, Int.reduceLT, Int.reduceToNat, Nat.reduceLeDiff, Nat.reduceSub, Int.reduceEq, Nat.reduceBEq, List.replicate, List.set, evB]
    · have d1 : decide ((i : Int) < (l.length : Int)) = false := by simpa using hlt
      (repeat (first | refine awp_seq ?_ | refine awp_block ?_ | ((first | refine awp_skip ?_ | refine awp_exit ?_ | refine awp_reg ttok ?_ | (refine awp_draw ttok ?dr_calm ?_; (case dr_calm => decide +kernel)) | refine awp_condM ?_); simp (maxSteps := 4000000) only [↓reduceIte, Nat.reduceLT, Nat.reduceEqDiff, reduceCtorEq, Nat.reduceAdd, Nat.reduceMul, Int.reduceLE, Int.reduceLT, Int.reduceToNat, Nat.reduceLeDiff, Nat.reduceSub, Int.reduceEq, Nat.reduceBEq, List.replicate, List.set, evB, tyA, d1]; (repeat (with_reducible refine And.intro ?_ ?_; exact sdX)); (with_reducible first | refine awp_id ?_ | refine id_call ?_ | refine id_and ?_ | refine id_ex ?_ | refine id_all ?_ | refine id_nat ?_ | refine id_le ?_))))
      exact awp_ret (ends_plain (.inr rfl) rfl evX)
theorem c_CtMM (g : Nat) (row : List D) (hg : FnOk Try.prog g) (f : Bool) (l : List (List (Int × Int))) (hl : l.length ≤ 100000) (hp : ∀ x ∈ l, Contract Try.prog g [.sl false (mvs x), .ref row 0] (bo false) []) :
    Contract Try.prog 83 [.sl f (mmv l), .fn (.func g) 0 [.ref row 0]] (bo false) [] := by
  refine contract_of_awp (rs := [4]) Try.func83 rfl Try.ntmps83 (by simp) rfl fun E => ?_
  have e : decide ((-1 : Int) ≥ 0) = false := rfl
  (repeat (first | refine awp_seq ?_ | refine awp_block ?_ | ((first | refine awp_skip ?_ | refine awp_exit ?_ | refine awp_reg ttok ?_ | (refine awp_draw ttok ?dr_calm ?_; (case dr_calm => decide +kernel)) | refine awp_condM ?_); simp (maxSteps := 4000000) only [↓reduceIte, Nat.reduceLT, Nat.reduceEqDiff, reduceCtorEq, Nat.reduceAdd, Nat.reduceMul, Int.reduceLE, Int.reduceLT, Int.reduceToNat, Nat.reduceLeDiff, Nat.reduceSub, Int.reduceEq, Nat.reduceBEq, List.replicate, List.set, evB, tyA]; (repeat (with_reducible refine And.intro ?_ ?_; exact sdX)); (with_reducible first | refine awp_id ?_ | refine id_call ?_ | refine id_and ?_ | refine id_ex ?_ | refine id_all ?_ | refine id_nat ?_ | refine id_le ?_))))
  refine callVC_scal fnok93 (c_IdxMM g row hg f l hl hp) rfl ?_
  simp (maxSteps := 4000000) only [↓reduceIte, Nat.reduceLT, Nat.reduceEqDiff, reduceCtorEq, Nat.reduceAdd, Nat.reduceMul, Int.reduceLE, Int.reduceLT, Int.reduceToNat, Nat.reduceLeDiff, Nat.reduceSub, Int.reduceEq, Nat.reduceBEq, List.replicate, List.set, evB, tyA, e]
  (repeat (with_reducible refine And.intro ?_ ?_; exact sdX))
  (repeat (first | refine awp_seq ?_ | refine awp_block ?_ | ((first | refine awp_skip ?_ | refine awp_exit ?_ | refine awp_reg ttok ?_ | (refine awp_draw ttok ?dr_calm ?_; (case dr_calm => decide +kernel)) | refine awp_condM ?_); simp (maxSteps := 4000000) only [↓reduceIte, Nat.reduceLT, Nat.reduceEqDiff, reduceCtorEq, Nat.reduceAdd, Nat.reduceMul, Int.reduceLE, Int.reduceLT, Int.reduceToNat, Nat.reduceLeDiff, Nat.reduceSub, Int.reduceEq, Nat.reduceBEq, List.replicate, List.set, evB, tyA, e]; (repeat (with_reducible refine And.intro ?_ ?_; exact sdX)); (with_reducible first | refine awp_id ?_ | refine id_call ?_ | refine id_and ?_ | refine id_ex ?_ | refine id_all ?_ | refine id_nat ?_ | refine id_le ?_))))
  exact awp_ret (ends_plain (.inr rfl) rfl evX)
theorem c_RMay11 {L k : Nat} {M : List (List (Int × Int))} (h : MOk L k M) (st : Nat) (F : List Bool) (a b : Int) (hx : -1 ≤ a ∧ a < (L : Int) ∧ 0 ≤ b ∧ b < (k : Int)) : Contract Try.prog 86 [.agg [i64 a, i64 b], .ref [i64 L, i64 st, .sl false (bos F), .sl false (mmv M)] 0] (bo false) [] := by
  refine contract_of_awp (rs := [3]) Try.func86 rfl Try.ntmps86 (by simp) rfl fun E => ?_
  have hkl := h.len
  have e1 : decide (a < -1) = false := by simp; omega
  have e2 : decide (a ≥ (L : Int)) = false := by simp; omega
  have e3 : decide (b < 0) = false := by simp; omega
  have e4 : decide (b ≥ (k : Int)) = false := by simp; omega
  (repeat (first | refine awp_seq ?_ | refine awp_block ?_ | ((first | refine awp_skip ?_ | refine awp_exit ?_ | refine awp_reg ttok ?_ | (refine awp_draw ttok ?dr_calm ?_; (case dr_calm => decide +kernel)) | refine awp_condM ?_); simp (maxSteps := 4000000) only [↓reduceIte, Nat.reduceLT, Nat.reduceEqDiff, reduceCtorEq, Nat.reduceAdd, Nat.reduceMul, Int.reduceLE, Int.reduceLT, Int.reduceToNat, Nat.reduceLeDiff, Nat.reduceSub, Int.reduceEq, Nat.reduceBEq, List.replicate, List.set, evB, tyA, e1, e2, e3, e4, mmv_len, hkl]; (repeat (with_reducible refine And.intro ?_ ?_; exact sdX)); (with_reducible first | refine awp_id ?_ | refine id_call ?_ | refine id_and ?_ | refine id_ex ?_ | refine id_all ?_ | refine id_nat ?_ | refine id_le ?_))))
  exact awp_ret (ends_plain (.inr rfl) rfl evX)
theorem c_RMay1 {L k : Nat} {M : List (List (Int × Int))} (h : MOk L k M) (hR : ∀ s, (M.getD s []).length ≤ 1000) (st : Nat) (F : List Bool) (x : List (Int × Int)) (hx : x ∈ M) : Contract Try.prog 84 [.sl false (mvs x), .ref [i64 L, i64 st, .sl false (bos F), .sl false (mmv M)] 0] (bo false) [] := by
  refine contract_of_awp (rs := [3]) Try.func84 rfl Try.ntmps84 (by simp) rfl fun E => ?_
  have hxl : x.length ≤ 1000 := by
    obtain ⟨i, hi, e⟩ := List.getElem_of_mem hx
    have := hR i
    rw [List.getD_eq_getElem?_getD, List.getElem?_eq_getElem hi, Option.getD_some, e] at this
    exact this
  have hc := c_CtMv 86 [i64 L, i64 st, .sl false (bos F), .sl false (mmv M)] fnok86 false x (by omega) fun y hy => c_RMay11 h st F y.1 y.2 (h.row x hx y hy)
  (repeat (first | refine awp_seq ?_ | refine awp_block ?_ | ((first | refine awp_skip ?_ | refine awp_exit ?_ | refine awp_reg ttok ?_ | (refine awp_draw ttok ?dr_calm ?_; (case dr_calm => decide +kernel)) | refine awp_condM ?_); simp (maxSteps := 4000000) only [↓reduceIte, Nat.reduceLT, Nat.reduceEqDiff, reduceCtorEq, Nat.reduceAdd, Nat.reduceMul, Int.reduceLE, Int.reduceLT, Int.reduceToNat, Nat.reduceLeDiff, Nat.reduceSub, Int.reduceEq, Nat.reduceBEq, List.replicate, List.set, evB, tyA]; (repeat (with_reducible refine And.intro ?_ ?_; exact sdX)); (with_reducible first | refine awp_id ?_ | refine id_call ?_ | refine id_and ?_ | refine id_ex ?_ | refine id_all ?_ | refine id_nat ?_ | refine id_le ?_))))
  refine callVC_scal fnok85 hc rfl ?_
  simp (maxSteps := 4000000) only [↓reduceIte, Nat.reduceLT, Nat.reduceEqDiff, reduceCtorEq, Nat.reduceAdd, Nat.reduceMul, Int.reduceLE, Int.reduceLT, Int.reduceToNat, Nat.reduceLeDiff, Nat.reduceSub, Int.reduceEq, Nat.reduceBEq, List.replicate, List.set, evB, tyA]
  (repeat (with_reducible refine And.intro ?_ ?_; exact sdX))
  (repeat (first | refine awp_seq ?_ | refine awp_block ?_ | ((first | refine awp_skip ?_ | refine awp_exit ?_ | refine awp_reg ttok ?_ | (refine awp_draw ttok ?dr_calm ?_; (case dr_calm => decide +kernel)) | refine awp_condM ?_); simp (maxSteps := 4000000) only [↓reduceIte, Nat.reduceLT, Nat.reduceEqDiff, reduceCtorEq, Nat.reduceAdd, Nat.reduceMul, Int.reduceLE, Int.reduceLT, Int.reduceToNat, Nat.reduceLeDiff, Nat.reduceSub, Int.reduceEq, Nat.reduceBEq, List.replicate, List.set, evB, tyA]; (repeat (with_reducible refine And.intro ?_ ?_; exact sdX)); (with_reducible first | refine awp_id ?_ | refine id_call ?_ | refine id_and ?_ | refine id_ex ?_ | refine id_all ?_ | refine id_nat ?_ | refine id_le ?_))))
  exact awp_ret (ends_plain (.inr rfl) rfl evX)
set_option maxRecDepth 20000 in
theorem c_RMay {L k : Nat} {M : List (List (Int × Int))} (h : MOk L k M) (hR : ∀ s, (M.getD s []).length ≤ 1000) (hk : 1 ≤ k ∧ k ≤ 2000) (st : Nat) (hst : st < k) (F : List Bool) (hF : F.length = k) : Contract Try.prog 70 [nfaD L st F M] (bo true) [] := by
  refine contract_of_awp (rs := [2]) Try.func70 rfl Try.ntmps70 (by simp) rfl fun E => ?_
  have hkl := h.len
  have hc := c_CtMM 84 [i64 L, i64 st, .sl false (bos F), .sl false (mmv M)] fnok84 false M (by omega) fun x hx => c_RMay1 h hR st F x hx
  have e1 : decide ((L : Int) < 0) = false := by simp
  have e2 : ((k : Int) != (k : Int)) = false := by simp
  have e3 : decide ((k : Int) < 1) = false := by simp; omega
  have e4 : decide ((k : Int) > 2000) = false := by simp; omega
  have e5 : decide ((st : Int) < 0) = false := by simp
  have e6 : decide ((st : Int) ≥ (k : Int)) = false := by simp; omega
  (repeat (first | refine awp_seq ?_ | refine awp_block ?_ | ((first | refine awp_skip ?_ | refine awp_exit ?_ | refine awp_reg ttok ?_ | (refine awp_draw ttok ?dr_calm ?_; (case dr_calm => decide +kernel)) | refine awp_condM ?_); simp (maxSteps := 4000000) only [↓reduceIte, Nat.reduceLT, Nat.reduceEqDiff, reduceCtorEq, Nat.reduceAdd, Nat.reduceMul, Int.reduceLE, Int.reduceLT, Int.reduceToNat, Nat.reduceLeDiff, Nat.reduceSub, Int.reduceEq, Nat.reduceBEq, List.replicate, List.set, evB, tyA, nfaD, e1, e2, e3, e4, e5, e6, bos_len, mmv_len, hkl, hF]; (repeat (with_reducible refine And.intro ?_ ?_; exact sdX)); (with_reducible first | refine awp_id ?_ | refine id_call ?_ | refine id_and ?_ | refine id_ex ?_ | refine id_all ?_ | refine id_nat ?_ | refine id_le ?_))))
  refine callVC_scal fnok83 hc rfl ?_
  simp (maxSteps := 4000000) only [↓reduceIte, Nat.reduceLT, Nat.reduceEqDiff, reduceCtorEq, Nat.reduceAdd, Nat.reduceMul, Int.reduceLE, Int.reduceLT, Int.reduceToNat, Nat.reduceLeDiff, Nat.reduceSub, Int.reduceEq, Nat.reduceBEq, List.replicate, List.set, evB, tyA]
  (repeat (with_reducible refine And.intro ?_ ?_; exact sdX))
  (repeat (first | refine awp_seq ?_ | refine awp_block ?_ | ((first | refine awp_skip ?_ | refine awp_exit ?_ | refine awp_reg ttok ?_ | (refine awp_draw ttok ?dr_calm ?_; (case dr_calm => decide +kernel)) | refine awp_condM ?_); simp (maxSteps := 4000000) only [↓reduceIte, Nat.reduceLT, Nat.reduceEqDiff, reduceCtorEq, Nat.reduceAdd, Nat.reduceMul, Int.reduceLE, Int.reduceLT, Int.reduceToNat, Nat.reduceLeDiff, Nat.reduceSub, Int.reduceEq, Nat.reduceBEq, List.replicate, List.set, evB, tyA]; (repeat (with_reducible refine And.intro ?_ ?_; exact sdX)); (with_reducible first | refine awp_id ?_ | refine id_call ?_ | refine id_and ?_ | refine id_ex ?_ | refine id_all ?_ | refine id_nat ?_ | refine id_le ?_))))
  exact awp_ret (ends_plain (.inr rfl) rfl evX)
set_option maxRecDepth 20000 in
set_option maxHeartbeats 16000000 in
theorem c_DKey (f : Bool) (l : List Int) (hl : l.length ≤ 100000) (hb : ∀ x ∈ l, 0 ≤ x ∧ x < 65535) : Contract Try.prog 72 [.sl f (ints l)] (.v (strK l)) [] := by
  refine contract_of_awp (rs := [2]) Try.func72 rfl Try.ntmps72 (by simp) rfl fun E => ?_
  have r2 : ∀ x y : Int, [[D.v (Value.int IntKind.u8 (IntKind.u8.wrap x))], [D.v (Value.int IntKind.u8 (IntKind.u8.wrap (y.fdiv (2 ^ min 8 IntKind.i64.bits))))]] = bys [kLo x, kHi y] := fun x y => by rw [kLo_val, kHi_val]; rfl
  have hu : IntKind.u64.wrap 8 = 8 := rfl
  ((repeat (first | refine awp_seq ?_ | refine awp_block ?_)); ((first | refine awp_skip ?_ | refine awp_exit ?_ | refine awp_reg ttok ?_ | (refine awp_draw ttok ?dr_calm ?_; (case dr_calm => decide +kernel)) | refine awp_condM ?_); simp (maxSteps := 4000000) only [↓reduceIte, Nat.reduceLT, Nat.reduceEqDiff, reduceCtorEq, Nat.reduceAdd, Nat.reduceMul, Int.reduceLE, Int.reduceLT, Int.reduceToNat, Nat.reduceLeDiff, Nat.reduceSub, Int.reduceEq, Nat.reduceBEq, List.replicate, List.set, evB, tyA]; (repeat (with_reducible refine And.intro ?_ ?_; exact sdX)); (with_reducible first | refine awp_id ?_ | refine id_call ?_ | refine id_and ?_ | refine id_ex ?_ | refine id_all ?_ | refine id_nat ?_ | refine id_le ?_)))
  ((repeat (first | refine awp_seq ?_ | refine awp_block ?_)); ((first | refine awp_skip ?_ | refine awp_exit ?_ | refine awp_reg ttok ?_ | (refine awp_draw ttok ?dr_calm ?_; (case dr_calm => decide +kernel)) | refine awp_condM ?_); simp (maxSteps := 4000000) only [↓reduceIte, Nat.reduceLT, Nat.reduceEqDiff, reduceCtorEq, Nat.reduceAdd, Nat.reduceMul, Int.reduceLE, Int.reduceLT, Int.reduceToNat, Nat.reduceLeDiff, Nat.reduceSub, Int.reduceEq, Nat.reduceBEq, List.replicate, List.set, evB, tyA]; (repeat (with_reducible refine And.intro ?_ ?_; exact sdX)); (with_reducible first | refine awp_id ?_ | refine id_call ?_ | refine id_and ?_ | refine id_ex ?_ | refine id_all ?_ | refine id_nat ?_ | refine id_le ?_)))
  refine awp_own_nil 3 90000 1 evX (by decide) ?_
  (repeat (first | refine awp_seq ?_ | refine awp_block ?_ | ((first | refine awp_skip ?_ | refine awp_exit ?_ | refine awp_reg ttok ?_ | (refine awp_draw ttok ?dr_calm ?_; (case dr_calm => decide +kernel)) | refine awp_condM ?_); simp (maxSteps := 4000000) only [↓reduceIte, Nat.reduceLT, Nat.reduceEqDiff, reduceCtorEq, Nat.reduceAdd, Nat.reduceMul, Int.reduceLE, Int.reduceLT, Int.reduceToNat, Nat.reduceLeDiff, Nat.reduceSub, Int.reduceEq, Nat.reduceBEq, List.replicate, List.set, evB, tyA, St.toOwn]; (repeat (with_reducible refine And.intro ?_ ?_; exact sdX)); (with_reducible first | refine awp_id ?_ | refine id_call ?_ | refine id_and ?_ | refine id_ex ?_ | refine id_all ?_ | refine id_nat ?_ | refine id_le ?_))))
  refine awp_loop (X := Nat) (fun i => mkS 23 [(3, .own 90000 0 (kBy (l.take i)).length), (6, .sl f (ints l)), (7, i64 l.length), (8, i64 i)] [(90000, { sz := 1, rows := bys (kBy (l.take i)) })]) (fun i => i ≤ l.length) (fun i => l.length - i) 0 (Nat.zero_le _) (mkS_le rfl ?_ ?_) ?_
  · simp (maxSteps := 4000000) only [↓reduceIte, Nat.reduceLT, Nat.reduceEqDiff, reduceCtorEq, Nat.reduceAdd, Nat.reduceMul, Int.reduceLE, Int.reduceLT, Int.reduceToNat, Nat.reduceLeDiff, Nat.reduceSub, Int.reduceEq, Nat.reduceBEq, List.replicate, List.set, evB, kBy, List.flatMap_nil]
    try rfl
  · simp (maxSteps := 4000000) only [↓reduceIte, Nat.reduceLT, Nat.reduceEqDiff, reduceCtorEq, Nat.reduceAdd, Nat.reduceMul, Int.reduceLE, Int.reduceLT, Int.reduceToNat, Nat.reduceLeDiff, Nat.reduceSub, Int.reduceEq, Nat.reduceBEq, List.replicate, List.set, evB, kBy, List.flatMap_nil, bys]
    try rfl
  · intro i hi
    have hbl := kBy_len (l.take i)
    rw [List.length_take] at hbl
    by_cases hlt : i < l.length
    · have d1 : decide ((i : Int) < (l.length : Int)) = true := by simpa using hlt
      have hwi : IntKind.i64.wrap ((i : Int) + 1) = ((i + 1 : Nat) : Int) := i64_in (by omega) (by omega)
      have hgw := ints_get hlt
      have hst : kBy (l.take (i + 1)) = kBy (l.take i) ++ [kLo (l.getD i 0), kHi (l.getD i 0)] := by rw [take_snoc hlt 0, kBy_snoc]
      generalize l.getD i 0 = x at *
      generalize kBy (l.take i) = B at *
      have htk : List.take B.length B = B := List.take_of_length_le (Nat.le_refl _)
      (repeat (first | refine awp_seq ?_ | refine awp_block ?_ | ((first | refine awp_skip ?_ | refine awp_exit ?_ | refine awp_reg ttok ?_ | (refine awp_draw ttok ?dr_calm ?_; (case dr_calm => decide +kernel)) | refine awp_condM ?_); simp (maxSteps := 4000000) only [↓reduceIte, Nat.reduceLT, Nat.reduceEqDiff, reduceCtorEq, Nat.reduceAdd, Nat.reduceMul, Int.reduceLE, Int.reduceLT, Int.reduceToNat, Nat.reduceLeDiff, Nat.reduceSub, Int.reduceEq, Nat.reduceBEq, List.replicate, List.set, evB, tyA, d1, hgw, hwi, hu, r2, htk, bys_len, bys_take, bys_app]; (repeat (with_reducible refine And.intro ?_ ?_; exact sdX)); (with_reducible first | refine awp_id ?_ | refine id_call ?_ | refine id_and ?_ | refine id_ex ?_ | refine id_all ?_ | refine id_nat ?_ | refine id_le ?_))))
      refine ⟨i + 1, by omega, by omega, mkS_le rfl ?_ ?_⟩
      · simp (maxSteps := 4000000) only [↓reduceIte, Nat.reduceLT, Nat.reduceEqDiff, reduceCtorEq, Nat.reduceAdd, Nat.reduceMul, Int.reduceLE, Int.reduceLT, Int.reduceToNat, Nat.reduceLeDiff, Nat.reduceSub, Int.reduceEq, Nat.reduceBEq, List.replicate, List.set, evB, hst, List.length_append]
        try rfl
      · simp (maxSteps := 4000000) only [↓reduceIte, Nat.reduceLT, Nat.reduceEqDiff, reduceCtorEq, Nat.reduceAdd, Nat.reduceMul, Int.reduceLE, Int.reduceLT, Int.reduceToNat, Nat.reduceLeDiff, Nat.reduceSub, Int.reduceEq, Nat.reduceBEq, List.replicate, List.set, evB, hst]
    · have d1 : decide ((i : Int) < (l.length : Int)) = false := by simpa using hlt
      have hft : l.take i = l := List.take_of_length_le (by omega)
      rw [hft]
      (repeat (first | refine awp_seq ?_ | refine awp_block ?_ | ((first | refine awp_skip ?_ | refine awp_exit ?_ | refine awp_reg ttok ?_ | (refine awp_draw ttok ?dr_calm ?_; (case dr_calm => decide +kernel)) | refine awp_condM ?_); simp (maxSteps := 4000000) only [↓reduceIte, Nat.reduceLT, Nat.reduceEqDiff, reduceCtorEq, Nat.reduceAdd, Nat.reduceMul, Int.reduceLE, Int.reduceLT, Int.reduceToNat, Nat.reduceLeDiff, Nat.reduceSub, Int.reduceEq, Nat.reduceBEq, List.replicate, List.set, evB, tyA, d1]; (repeat (with_reducible refine And.intro ?_ ?_; exact sdX)); (with_reducible first | refine awp_id ?_ | refine id_call ?_ | refine id_and ?_ | refine id_ex ?_ | refine id_all ?_ | refine id_nat ?_ | refine id_le ?_))))
      refine awp_ret (ends_plain (.inr rfl) rfl ?_)
      simp (maxSteps := 4000000) only [↓reduceIte, Nat.reduceLT, Nat.reduceEqDiff, reduceCtorEq, Nat.reduceAdd, Nat.reduceMul, Int.reduceLE, Int.reduceLT, Int.reduceToNat, Nat.reduceLeDiff, Nat.reduceSub, Int.reduceEq, Nat.reduceBEq, List.replicate, List.set, evB, strK, kStr, List.take_of_length_le (Nat.le_refl _)]
end Go.Proofs.Ytcpipfodedfpkaa
