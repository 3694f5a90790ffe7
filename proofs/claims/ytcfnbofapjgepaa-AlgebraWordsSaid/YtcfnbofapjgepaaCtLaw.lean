/-
  How many words there are: plain facts.
-/
import Derived.Test.YtcfnbofapjgepaaShLaw
namespace Go.Proofs.Ytcfnbofapjgepaa
open Go.Ab
set_option linter.unusedSimpArgs false
set_option linter.unusedVariables false

/-- A sum over states. -/
def sumS (h : Nat → Nat) : Nat → Nat
  | 0 => 0
  | s + 1 => sumS h s + h s
theorem sumS_congr {h g : Nat → Nat} : ∀ {n : Nat}, (∀ s, s < n → h s = g s) → sumS h n = sumS g n
  | 0, _ => rfl
  | n + 1, hh => by rw [sumS, sumS, sumS_congr fun s hs => hh s (by omega), hh n (by omega)]
theorem sumS_add (h g : Nat → Nat) : ∀ n, sumS (fun s => h s + g s) n = sumS h n + sumS g n
  | 0 => rfl
  | n + 1 => by simp only [sumS]; rw [sumS_add h g n]; omega
theorem sumS_zero : ∀ n, sumS (fun _ => 0) n = 0
  | 0 => rfl
  | n + 1 => by simp only [sumS]; rw [sumS_zero n]
theorem sumS_one (g : Nat → Nat) (z : Nat) : ∀ n, sumS (fun s => if z = s then g s else 0) n = if z < n then g z else 0
  | 0 => by simp [sumS]
  | n + 1 => by
    rw [sumS, sumS_one g z n]
    rcases Nat.lt_trichotomy z n with h | h | h
    · rw [if_pos h, if_neg (by omega), if_pos (by omega)]; omega
    · subst h; rw [if_neg (by omega), if_pos rfl, if_pos (by omega)]; omega
    · rw [if_neg (by omega), if_neg (by omega), if_neg (by omega)]
theorem sum_ex {α : Type} (f : α → Int) (g : Nat → Nat) (k : Nat) : ∀ (l : List α), (∀ x ∈ l, f x < (k : Int)) → (l.map fun x => if f x < 0 then 0 else g (f x).toNat).sum = sumS (fun s => (l.countP fun x => f x == (s : Int)) * g s) k
  | [], _ => by
    simp only [List.map_nil, List.sum_nil, List.countP_nil, Nat.zero_mul]
    exact (sumS_zero k).symm
  | x :: l, h => by
    have ih := sum_ex f g k l fun y hy => h y (by simp [hy])
    have hx := h x (by simp)
    rw [List.map_cons, List.sum_cons, ih]
    have e : ∀ s : Nat, ((x :: l).countP fun x => f x == (s : Int)) * g s = (l.countP fun x => f x == (s : Int)) * g s + (if f x = (s : Int) then g s else 0) := fun s => by
      rw [List.countP_cons]
      by_cases q : f x = (s : Int)
      · rw [if_pos q]; simp only [q, beq_self_eq_true, if_true]; rw [Nat.add_mul, Nat.one_mul]
      · rw [if_neg q, if_neg (by simpa using q), Nat.add_zero, Nat.add_zero]
    rw [sumS_congr fun s _ => e s, sumS_add, Nat.add_comm]
    congr 1
    by_cases h0 : f x < 0
    · rw [if_pos h0, sumS_congr (g := fun _ => 0) fun s _ => by rw [if_neg (by omega)]]
      exact (sumS_zero k).symm
    · rw [if_neg h0]
      obtain ⟨z, hz⟩ := Int.eq_ofNat_of_zero_le (show 0 ≤ f x by omega)
      rw [hz] at hx ⊢
      rw [sumS_congr (g := fun s => if z = s then g s else 0) fun s _ => by
        by_cases q : z = s
        · rw [if_pos q, if_pos (by omega)]
        · rw [if_neg q, if_neg (by omega)]]
      rw [sumS_one, if_pos (by omega)]
      rfl

theorem cK_get {r : List Int} {v : Nat} {nx : List Nat} {t x : Nat} (ht : t < nx.length) (hx : nx.getD t 0 = min x 1000000) (hr : ∀ y ∈ r, y < (nx.length : Int)) : ∀ c, c ≤ r.length → (cK r v nx c).getD t 0 = min (x + (r.take c).countP (fun y => y == (t : Int)) * v) 1000000
  | 0, _ => by simpa [cK] using hx
  | c + 1, hc => by
    have ih := cK_get ht hx hr (v := v) c (by omega)
    have hl := cK_len r v nx c
    rw [cK, take_snoc (show c < r.length by omega) 0, List.countP_append, List.countP_cons, List.countP_nil]
    have hy := hr _ (getD_mem (show c < r.length by omega) 0)
    generalize r.getD c 0 = y at *
    generalize cK r v nx c = p at *
    by_cases h0 : 0 ≤ y
    · rw [if_pos h0]
      obtain ⟨z, rfl⟩ := Int.eq_ofNat_of_zero_le h0
      rw [Int.toNat_natCast]
      by_cases q : z = t
      · subst q
        have : (p.set z (min (p.getD z 0 + v) 1000000)).getD z 0 = min (p.getD z 0 + v) 1000000 := by simp [List.getD, show z < p.length by omega]
        rw [this, ih]
        simp only [beq_self_eq_true, if_true, Nat.zero_add]
        rw [Nat.add_mul, Nat.one_mul]
        omega
      · have : (p.set z (min (p.getD z 0 + v) 1000000)).getD t 0 = p.getD t 0 := by simp [List.getD, List.getElem?_set_ne q]
        rw [this, ih, if_neg (by simp; omega), Nat.zero_add, Nat.add_zero]
    · rw [if_neg h0, ih, if_neg (by simp; omega), Nat.zero_add, Nat.add_zero]
theorem cS_get {N : List (List Int)} {now : List Nat} {t k : Nat} (ht : t < k) (hr : ∀ s, ∀ y ∈ N.getD s [], y < (k : Int)) : ∀ s, (cS N now (List.replicate k 0) s).getD t 0 = min (sumS (fun s => (N.getD s []).countP (fun y => y == (t : Int)) * now.getD s 0) s) 1000000
  | 0 => by simp [cS, sumS, List.getD, ht]
  | s + 1 => by
    rw [cS, cK_get (by rw [cS_len]; simpa using ht) (cS_get ht hr s) (fun y hy => by rw [cS_len]; simpa using hr s y hy) _ (Nat.le_refl _), List.take_length, sumS]

/-- How many words of a length lead to a state. -/
def cntW (L : Nat) (N : List (List Int)) (st n t : Nat) : Nat := (wordsL L n).countP fun w => runD N st w == (t : Int)
theorem sum_flat {α β : Type} (p : β → Bool) (g : α → List β) : ∀ l : List α, (l.flatMap g).countP p = (l.map fun x => (g x).countP p).sum
  | [] => rfl
  | x :: l => by rw [List.flatMap_cons, List.countP_append, sum_flat p g l, List.map_cons, List.sum_cons]
theorem countP_range_row (r : List Int) (p : Int → Bool) : ((List.range r.length).countP fun a => p (r.getD a 0)) = r.countP p := by
  have : (List.range r.length).map (fun a => r.getD a 0) = r := by
    apply List.ext_getElem (by simp)
    intro i h1 h2
    simp [List.getD, List.getElem?_eq_getElem h2]
  conv => rhs; rw [← this, List.countP_map]
  rfl
theorem runD_lt {L k : Nat} {N : List (List Int)} (h : NOk L k N) : ∀ (w : List Int) (s : Int), s < (k : Int) → runD N s w < (k : Int)
  | [], s, hs => hs
  | x :: w, s, hs => by
    rw [runD]
    split
    · exact hs
    · have := toD_ok h s x
      exact runD_lt h w _ (by omega)
theorem ext_count {L k : Nat} {N : List (List Int)} (h : NOk L k N) {st : Nat} (hst : st < k) (t : Nat) (w : List Int) : ((List.range L).map fun (a : Nat) => w ++ [(a : Int)]).countP (fun u => runD N st u == (t : Int)) = if runD N st w < 0 then 0 else (N.getD (runD N st w).toNat []).countP (fun y => y == (t : Int)) := by
  have hlt := runD_lt h w st (by omega)
  rw [List.countP_map]
  simp only [Function.comp_def, runD_app]
  by_cases h0 : runD N st w < 0
  · simp only [h0, if_true]
    rw [List.countP_eq_zero]
    intro a _; simp; omega
  · simp only [h0, if_false]
    obtain ⟨z, hz⟩ := Int.eq_ofNat_of_zero_le (show 0 ≤ runD N st w by omega)
    rw [hz] at hlt ⊢
    rw [Int.toNat_natCast, ← countP_range_row, (h.get (show z < k by omega)).1]
    apply List.countP_congr
    intro a ha
    rw [toD_good h (by omega) (List.mem_range.1 ha)]
theorem cntW_succ {L k : Nat} {N : List (List Int)} (h : NOk L k N) {st : Nat} (hst : st < k) (n t : Nat) : cntW L N st (n + 1) t = sumS (fun s => cntW L N st n s * (N.getD s []).countP (fun y => y == (t : Int))) k := by
  rw [cntW, wordsL, sum_flat]
  rw [show (fun x : List Int => ((List.range L).map fun (a : Nat) => x ++ [(a : Int)]).countP fun u => runD N st u == (t : Int)) = fun x => if runD N st x < 0 then 0 else (N.getD (runD N st x).toNat []).countP (fun y => y == (t : Int)) from funext fun x => ext_count h hst t x]
  exact sum_ex (fun w => runD N st w) (fun s => (N.getD s []).countP (fun y => y == (t : Int))) k (wordsL L n) fun w _ => runD_lt h w st (by omega)
theorem cntW_le {L : Nat} (hL : L ≤ 4) (N : List (List Int)) (st : Nat) {n : Nat} (hn : n ≤ 9) (t : Nat) : cntW L N st n t ≤ 262144 := by
  refine Nat.le_trans (List.countP_le_length) ?_
  rw [wordsL_len]
  exact Nat.le_trans (Nat.pow_le_pow_left hL n) (Nat.le_trans (Nat.pow_le_pow_right (by decide) hn) (by decide))
theorem cN_get {L k : Nat} {N : List (List Int)} (h : NOk L k N) (hL : L ≤ 4) {st : Nat} (hst : st < k) : ∀ n, n ≤ 9 → ∀ t, t < k → (cN N st k n).getD t 0 = cntW L N st n t
  | 0, _, t, ht => by
    have hc : cntW L N st 0 t = if st = t then 1 else 0 := by
      rw [cntW, wordsL, List.countP_cons, List.countP_nil]
      by_cases q : st = t
      · rw [if_pos q, if_pos (by simp [runD, q])]
      · rw [if_neg q, if_neg (by simp [runD]; omega)]
    rw [hc, cN]
    by_cases q : st = t
    · subst q; simp [List.getD, hst]
    · rw [if_neg q]
      have e : ((List.replicate k 0).set st 1).getD t 0 = (List.replicate k 0).getD t 0 := by simp only [List.getD, List.getElem?_set_ne q]
      rw [e]
      simp [List.getD, ht]
  | n + 1, hn, t, ht => by
    have hr : ∀ s, ∀ y ∈ N.getD s [], y < (k : Int) := fun s y hy => by
      rcases Nat.lt_or_ge s k with q | q
      · exact ((h.get q).2 y hy).2
      · have hl := h.len
        rw [List.getD, List.getElem?_eq_none (by omega)] at hy; simp at hy
    rw [cN, cS_get ht hr]
    have e : sumS (fun s => (N.getD s []).countP (fun y => y == (t : Int)) * (cN N st k n).getD s 0) k = cntW L N st (n + 1) t := by
      rw [cntW_succ h hst]
      exact sumS_congr fun s hs => by rw [cN_get h hL hst n (by omega) s hs, Nat.mul_comm]
    rw [e]
    have := cntW_le hL N st hn t
    omega
theorem cF_get (F : List Bool) (now : List Nat) : ∀ s, cF F now s = min (sumS (fun s => now.getD s 0 * (if F.getD s false = true then 1 else 0)) s) 1000000
  | 0 => by simp [cF, sumS]
  | s + 1 => by
    rw [cF, sumS, cF_get F now s]
    cases F.getD s false <;> simp <;> omega
/-- The count is how many words are taken. -/
theorem count_spec {L k : Nat} {N : List (List Int)} (h : NOk L k N) (hL : L ≤ 4) {st : Nat} (hst : st < k) (F : List Bool) {n : Nat} (hn : n ≤ 9) : cF F (cN N st k n) k = (wordsL L n).countP (fun w => endsD F N st w) := by
  rw [cF_get]
  have e : sumS (fun s => (cN N st k n).getD s 0 * (if F.getD s false = true then 1 else 0)) k = (wordsL L n).countP (fun w => endsD F N st w) := by
    rw [sumS_congr fun s hs => by rw [cN_get h hL hst n hn s hs]]
    have := sum_ex (fun w => runD N st w) (fun s => if F.getD s false = true then 1 else 0) k (wordsL L n) fun w _ => runD_lt h w st (by omega)
    refine Eq.trans this.symm ?_
    have key : ∀ l : List (List Int), (l.map fun w => if runD N st w < 0 then 0 else if F.getD (runD N st w).toNat false = true then 1 else 0).sum = l.countP (fun w => endsD F N st w) := fun l => by
      induction l with
      | nil => rfl
      | cons w l ih =>
        rw [List.map_cons, List.sum_cons, ih, List.countP_cons, Nat.add_comm]
        congr 1
        have hE : endsD F N st w = (decide (0 ≤ runD N st w) && F.getD (runD N st w).toNat false) := rfl
        by_cases q : runD N st w < 0
        · rw [if_pos q, if_neg (by rw [hE]; simp; omega)]
        · rw [if_neg q]
          have h2 : decide (0 ≤ runD N st w) = true := by simp; omega
          rw [h2, Bool.true_and] at hE
          rw [hE]
    exact key _
  rw [e]
  have : (wordsL L n).countP (fun w => endsD F N st w) ≤ 262144 := by
    refine Nat.le_trans (List.countP_le_length) ?_
    rw [wordsL_len]
    exact Nat.le_trans (Nat.pow_le_pow_left hL n) (Nat.le_trans (Nat.pow_le_pow_right (by decide) hn) (by decide))
  omega

/-- The first word in order that is taken is the shortest. -/
theorem first_is {L k : Nat} {N : List (List Int)} (h : NOk L k N) {st : Nat} (hst : st < k) (hk : k ≤ 2000) (F : List Bool) {n i : Nat} (hi : i < (wordsL L n).length) (ha : endsD F N st ((wordsL L n).getD i []) = true)
    (hno : ((uptoP L n ++ (wordsL L n).take i).any fun w => endsD F N st w) = false) : (wordsL L n).getD i [] = shW (srch (ch1 N) ((st : Int), 0) L (fin1 F) 3000 0) := by
  obtain ⟨s1, s2⟩ := short_spec h hst hk F
  cases hR : srch (ch1 N) ((st : Int), 0) L (fin1 F) 3000 0 with
  | none => rw [s2 hR] at ha; cases ha
  | some w =>
    obtain ⟨a1, a2, a3⟩ := s1 w hR
    obtain ⟨v, h1, h2, h3, h4⟩ := wordsL_code n i hi
    rw [h1] at ha ⊢
    have hle := a3 v h2 ha
    have hw : cde L w = cde L v := by
      refine Nat.le_antisymm hle (Nat.le_of_not_lt fun hlt => ?_)
      have hin : nInts w ∈ uptoP L n ++ (wordsL L n).take i := by
        have l1 := cde_len w a1
        have l2 := cde_len v h2
        obtain ⟨j, j1, j2, j3⟩ := words_code a1
        have mono : ∀ a b, a ≤ b → base L a ≤ base L b := fun a b hab => by
          induction hab with
          | refl => exact Nat.le_refl _
          | @step m hm ih =>
            have hb : ∀ m, base L m ≤ base L (m + 1) := fun m => by
              induction m with
              | zero => simp [base]
              | succ m ihm =>
                have := Nat.mul_le_mul ihm (Nat.le_refl L)
                rw [base, base]; omega
            exact Nat.le_trans ih (hb _)
        rcases Nat.lt_trichotomy w.length n with g | g | g
        · apply List.mem_append_left
          have : ∀ m, w.length < m → nInts w ∈ uptoP L m := fun m => by
            induction m with
            | zero => intro q; omega
            | succ m ih =>
              intro q
              rw [uptoP, List.mem_append]
              rcases Nat.lt_or_ge w.length m with q1 | q1
              · exact .inl (ih q1)
              · right
                obtain rfl : w.length = m := by omega
                rw [← j2]; exact getD_mem j1 []
          exact this n g
        · apply List.mem_append_right
          subst g
          rw [← j2]
          have hji : j < i := by omega
          have : ((wordsL L w.length).take i).getD j [] = (wordsL L w.length).getD j [] := by
            simp [List.getD, List.getElem?_take, hji]
          rw [← this]
          exact getD_mem (by rw [List.length_take]; omega) []
        · have := mono (n + 1) w.length (by omega)
          rw [h3] at l2
          omega
      rw [List.any_eq_false] at hno
      exact hno _ hin a2
    rw [shW, cde_inj w v a1 h2 hw]

end Go.Proofs.Ytcfnbofapjgepaa
