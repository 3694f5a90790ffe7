/-
  Plain facts on images' bytes: what is put is got; what is got was put.
-/
import Derived.Test.YtmfonlkigjpjcaaSn3
import Derived.Test.YtmfonlkigjpjcaaSn8
import Derived.Test.YtmfonlkigjpjcaaCgP
namespace Go.Proofs.Ytmfonlkigjpjcaa
open Go.Ab
set_option linter.unusedSimpArgs false
set_option linter.unusedVariables false

theorem codePut_pos (u : Nat) : 0 < (codePut u).length := by
  by_cases hu : u < 128
  · rw [codePut_small hu]; simp
  · rw [codePut_big hu]; simp
theorem cps_cons (n : Int) (M : List Int) : cps (n :: M) = codePut n.toNat ++ cps M := rfl
theorem cps_app (L M : List Int) : cps (L ++ M) = cps L ++ cps M := by simp [cps]

theorem get_cps {n : Int} (h0 : 0 ≤ n) (h : n ≤ 2147483647) (M : List Int) : codeGet (cps (n :: M)) = (n.toNat, (codePut n.toNat).length) := by
  rw [cps_cons]; exact codeGet_put (by omega) _
theorem tkN_cps {n : Int} (h0 : 0 ≤ n) (h : n ≤ 2147483647) (M : List Int) : (tkN (cps (n :: M)) : Int) = n := by
  have := codePut_pos n.toNat
  rw [tkN, get_cps h0 h, if_neg (by simp only; omega)]; simp only; omega
theorem tkR_cps {n : Int} (h0 : 0 ≤ n) (h : n ≤ 2147483647) (M : List Int) : tkR (cps (n :: M)) = cps M := by
  rw [tkR, get_cps h0 h, cps_cons, List.drop_left]
theorem tkO_cps {n : Int} (h0 : 0 ≤ n) (h : n ≤ 2147483647) (M : List Int) (ok : Bool) : tkO (cps (n :: M)) ok = ok := by
  have := codePut_pos n.toNat
  rw [tkO, get_cps h0 h, if_neg (by simp only; omega)]

theorem tks_cps : ∀ (n : Nat) (L M : List Int) (ok : Bool), n ≤ L.length → (∀ x ∈ L, 0 ≤ x ∧ x ≤ 2147483647) → tkRs (cps (L ++ M)) n = cps (L.drop n ++ M) ∧ tkNs (cps (L ++ M)) n = L.take n ∧ tkOs (cps (L ++ M)) ok n = ok
  | 0, L, M, ok, _, _ => ⟨rfl, rfl, rfl⟩
  | n + 1, L, M, ok, hn, hL => by
    obtain ⟨h1, h2, h3⟩ := tks_cps n L M ok (by omega) hL
    have hx := hL (L[n]'(by omega)) (List.getElem_mem _)
    have e : L.drop n ++ M = L[n]'(by omega) :: (L.drop (n + 1) ++ M) := by rw [List.drop_eq_getElem_cons (by omega)]; rfl
    refine ⟨?_, ?_, ?_⟩
    · rw [tkRs, h1, e, tkR_cps hx.1 hx.2]
    · rw [tkNs, h2, h1, e, tkN_cps hx.1 hx.2, List.take_succ_eq_append_getElem (by omega)]
    · rw [tkOs, h1, h3, e, tkO_cps hx.1 hx.2]

theorem sg_cps {s : Int × List Int} {q : Int} (h : sOk s q = true) (M : List Int) (ok : Bool) :
    sgS (cps (sEnc s q ++ M)) = s ∧ sgR (cps (sEnc s q ++ M)) = cps M ∧ (tkN (sgL (cps (sEnc s q ++ M))) : Int) = q ∧ sgO (cps (sEnc s q ++ M)) ok = ok := by
  obtain ⟨c0, c1, q0, q1, l8, lc, hx⟩ := sOk_true h
  have e : sEnc s q ++ M = s.1 :: (s.2.length : Int) :: (s.2 ++ (q :: M)) := by simp [sEnc]
  rw [e]
  have r1 := tkR_cps c0 c1 ((s.2.length : Int) :: (s.2 ++ (q :: M)))
  have r2 := tkR_cps (n := (s.2.length : Int)) (by omega) (by omega) (s.2 ++ (q :: M))
  have n1 := tkN_cps c0 c1 ((s.2.length : Int) :: (s.2 ++ (q :: M)))
  have n2 := tkN_cps (n := (s.2.length : Int)) (by omega) (by omega) (s.2 ++ (q :: M))
  have hM : sgM (cps (s.1 :: (s.2.length : Int) :: (s.2 ++ (q :: M)))) = s.2.length := by rw [sgM, r1]; omega
  have ht := tks_cps s.2.length s.2 (q :: M) (tkO (cps ((s.2.length : Int) :: (s.2 ++ (q :: M)))) (tkO (cps (s.1 :: (s.2.length : Int) :: (s.2 ++ (q :: M)))) ok)) (Nat.le_refl _) hx
  rw [List.drop_length, List.take_length, List.nil_append] at ht
  have hL : sgL (cps (s.1 :: (s.2.length : Int) :: (s.2 ++ (q :: M)))) = cps (q :: M) := by rw [sgL, hM, r1, r2, ht.1]
  refine ⟨?_, ?_, ?_, ?_⟩
  · rw [sgS, hM, r1, r2, ht.2.1, n1]
  · rw [sgR, hL, tkR_cps q0 q1]
  · rw [hL, tkN_cps q0 q1]
  · rw [sgO, hL, hM, tkO_cps q0 q1, r1, r2, ht.2.2, tkO_cps (by omega) (by omega), tkO_cps c0 c1]

theorem sgs_cps {l : List (Int × List Int)} {k : List Int} (hS : ∀ j, j < l.length → sOk (l.getD j (0, [])) (k.getD j 0) = true) (hlk : l.length = k.length) (ok : Bool) : ∀ (i : Nat) (T : List Int), i ≤ l.length →
    sgSs (cps (sNums l k i ++ T)) i = l.take i ∧ sgQs (cps (sNums l k i ++ T)) i = k.take i ∧ sgRs (cps (sNums l k i ++ T)) i = cps T ∧ sgOs (cps (sNums l k i ++ T)) ok i = ok
  | 0, T, _ => ⟨rfl, rfl, rfl, rfl⟩
  | i + 1, T, hi => by
    rw [sNums_succ, List.append_assoc]
    obtain ⟨h1, h2, h3, h4⟩ := sgs_cps hS hlk ok i (sEnc (l.getD i (0, [])) (k.getD i 0) ++ T) (by omega)
    obtain ⟨g1, g2, g3, g4⟩ := sg_cps (hS i (by omega)) T ok
    have el : l.getD i (0, []) = l[i]'(by omega) := by simp [List.getD, List.getElem?_eq_getElem (show i < l.length by omega)]
    have ek : k.getD i 0 = k[i]'(by omega) := by simp [List.getD, List.getElem?_eq_getElem (show i < k.length by omega)]
    refine ⟨?_, ?_, ?_, ?_⟩
    · rw [sgSs, h1, h3, g1, List.take_succ_eq_append_getElem (by omega), el]
    · rw [sgQs, h2, h3, g3, List.take_succ_eq_append_getElem (by omega), ek]
    · rw [sgRs, h3, g2]
    · rw [sgOs, h3, h4, g4]

/-- What is put is got. -/
theorem get_put {z a b : Int} {l : List (Int × List Int)} {k : List Int} (hm : mayB a b l k = true) (hz0 : 0 ≤ z) (hz : z ≤ 2147483647) :
    gtRes (cps (snapNums z a b l k)) = .tup [i64 z, .agg [i64 a, i64 b, .sl false (srs l), .sl false (ints k)], bo true] := by
  obtain ⟨hlk, h16, hA, hB, hS⟩ := mayB_true hm
  have ha := (okI_iff a).1 hA
  have hb := (okI_iff b).1 hB
  have e : snapNums z a b l k = z :: a :: b :: (l.length : Int) :: (sNums l k l.length ++ []) := by simp [snapNums]
  rw [e]
  have r0 := tkR_cps hz0 hz (a :: b :: (l.length : Int) :: (sNums l k l.length ++ []))
  have r1 := tkR_cps ha.1 ha.2 (b :: (l.length : Int) :: (sNums l k l.length ++ []))
  have r2 := tkR_cps hb.1 hb.2 ((l.length : Int) :: (sNums l k l.length ++ []))
  have r3 := tkR_cps (n := (l.length : Int)) (by omega) (by omega) (sNums l k l.length ++ [])
  obtain ⟨X, hX⟩ : ∃ X, X = cps (z :: a :: b :: (l.length : Int) :: (sNums l k l.length ++ [])) := ⟨_, rfl⟩
  rw [← hX] at r0 ⊢
  have s1 : tkRs X 1 = _ := r0
  have s2 : tkRs X 2 = _ := (congrArg tkR s1).trans r1
  have s3 : tkRs X 3 = _ := (congrArg tkR s2).trans r2
  have s4 : tkRs X 4 = _ := (congrArg tkR s3).trans r3
  have o4 : tkOs X true 4 = true := by
    simp only [tkOs]
    rw [s3, s2, s1, show tkRs X 0 = _ from hX, tkO_cps hz0 hz, tkO_cps ha.1 ha.2, tkO_cps hb.1 hb.2, tkO_cps (by omega) (by omega)]
  have n0 : (tkN X : Int) = z := by rw [hX]; exact tkN_cps hz0 hz _
  have n1 : gtA X = a := by rw [gtA, s1]; exact tkN_cps ha.1 ha.2 _
  have n2 : gtB X = b := by rw [gtB, s2]; exact tkN_cps hb.1 hb.2 _
  have n3 : gtN X = l.length := by
    have := tkN_cps (n := (l.length : Int)) (by omega) (by omega) (sNums l k l.length ++ [])
    rw [gtN, s3]; omega
  obtain ⟨g1, g2, g3, g4⟩ := sgs_cps hS hlk true l.length [] (Nat.le_refl _)
  have eS : gtS X = l := by rw [gtS, n3, s4, g1, List.take_length]
  have eQ : gtQ X = k := by rw [gtQ, n3, s4, g2, hlk, List.take_length]
  have eR : gtR X = [] := by rw [gtR, n3, s4, g3]; rfl
  have eO : gtO X = true := by rw [gtO, n3, s4, o4, g4]
  have hok : gtOk X = true := by rw [gtOk, eO, eR, n1, n2, eS, eQ, hm]; rfl
  rw [gtRes, hok, if_pos rfl, n0, n1, n2, eS, eQ]

theorem tkO_true {l : List UInt8} {ok : Bool} (h : tkO l ok = true) : ok = true ∧ l = codePut (tkN l) ++ tkR l ∧ tkN l ≤ 2147483647 := by
  unfold tkO at h
  split at h
  · cases h
  · rename_i hp
    have := codeGet_take (l := l) (by omega)
    have e : tkN l = (codeGet l).1 := by rw [tkN, if_neg hp]
    refine ⟨h, ?_, by omega⟩
    rw [e, ← this.1, tkR, List.take_append_drop]
theorem tkOs_true {l : List UInt8} {ok : Bool} : ∀ {n : Nat}, tkOs l ok n = true → ok = true ∧ l = cps (tkNs l n) ++ tkRs l n
  | 0, h => ⟨h, rfl⟩
  | n + 1, h => by
    rw [tkOs] at h
    obtain ⟨h1, h2, _⟩ := tkO_true h
    obtain ⟨h3, h4⟩ := tkOs_true h1
    refine ⟨h3, ?_⟩
    rw [tkNs, tkRs, ← cps_snoc, List.append_assoc, Int.toNat_natCast, ← h2]
    exact h4
theorem sgO_true {l : List UInt8} {ok : Bool} (h : sgO l ok = true) (hM : (sgS l).2.length ≤ 8) : ok = true ∧ l = cps (sEnc (sgS l) (tkN (sgL l) : Int)) ++ sgR l := by
  rw [sgO] at h
  obtain ⟨h1, h2, _⟩ := tkO_true h
  obtain ⟨h3, h4⟩ := tkOs_true h1
  obtain ⟨h5, h6, _⟩ := tkO_true h3
  obtain ⟨h7, h8, _⟩ := tkO_true h5
  refine ⟨h7, ?_⟩
  have hl : (sgS l).2.length = sgM l := tkNs_len _ _
  have hm : (sgS l).2.length = tkN (tkR l) := by rw [hl] at hM ⊢; unfold sgM at hM ⊢; omega
  have e : cps (sEnc (sgS l) (tkN (sgL l) : Int)) = codePut (tkN l) ++ (codePut (tkN (tkR l)) ++ (cps (tkNs (tkR (tkR l)) (sgM l)) ++ codePut (tkN (sgL l)))) := by
    rw [sEnc, hm, cps_cons, cps_cons, cps_app]
    simp [sgS, cps]
  rw [e]
  simp only [List.append_assoc]
  rw [show sgR l = tkR (sgL l) from rfl, ← h2, show sgL l = tkRs (tkR (tkR l)) (sgM l) from rfl, ← h4, ← h6, ← h8]
theorem sgOs_true {l : List UInt8} {ok : Bool} : ∀ {n : Nat}, sgOs l ok n = true → (∀ s ∈ sgSs l n, s.2.length ≤ 8) → ok = true ∧ ∃ N, N = sNums (sgSs l n) (sgQs l n) n ∧ l = cps N ++ sgRs l n
  | 0, h, _ => ⟨h, _, rfl, rfl⟩
  | n + 1, h, hs => by
    rw [sgOs] at h
    obtain ⟨h1, h2⟩ := sgO_true h (hs _ (by simp [sgSs]))
    obtain ⟨h3, N, hN, h4⟩ := sgOs_true h1 (fun s q => hs s (by simp [sgSs, q]))
    refine ⟨h3, _, rfl, ?_⟩
    have e1 : sNums (sgSs l n ++ [sgS (sgRs l n)]) (sgQs l n ++ [(tkN (sgL (sgRs l n)) : Int)]) n = sNums (sgSs l n) (sgQs l n) n := by
      unfold sNums
      have key : ∀ (f g : Nat → List Int) (m : Nat), (∀ j, j < m → f j = g j) → (List.range m).flatMap f = (List.range m).flatMap g := fun f g m hh => by
        induction m with
        | zero => rfl
        | succ m ih => rw [List.range_succ, List.flatMap_append, List.flatMap_append, ih (fun j hj => hh j (by omega))]; simp [hh m (by omega)]
      refine key _ _ n fun j hj => ?_
      have a1 : (sgSs l n ++ [sgS (sgRs l n)]).getD j (0, []) = (sgSs l n).getD j (0, []) := by
        simp [List.getD, List.getElem?_append_left (show j < (sgSs l n).length by rw [sgSs_len]; exact hj)]
      have a2 : (sgQs l n ++ [(tkN (sgL (sgRs l n)) : Int)]).getD j 0 = (sgQs l n).getD j 0 := by
        simp [List.getD, List.getElem?_append_left (show j < (sgQs l n).length by rw [sgQs_len]; exact hj)]
      rw [a1, a2]
    have a3 : (sgSs l n ++ [sgS (sgRs l n)]).getD n (0, []) = sgS (sgRs l n) := by
      simp [List.getD, List.getElem?_append_right (show (sgSs l n).length ≤ n by rw [sgSs_len]; omega), sgSs_len]
    have a4 : (sgQs l n ++ [(tkN (sgL (sgRs l n)) : Int)]).getD n 0 = (tkN (sgL (sgRs l n)) : Int) := by
      simp [List.getD, List.getElem?_append_right (show (sgQs l n).length ≤ n by rw [sgQs_len]; omega), sgQs_len]
    rw [sgSs, sgQs, sNums_succ, e1, a3, a4, cps_app, List.append_assoc, sgRs, ← h2, ← hN]
    exact h4

/-- What is got was put. -/
theorem put_get {b : List UInt8} (h : gtOk b = true) : cps (snapNums (tkN b : Int) (gtA b) (gtB b) (gtS b) (gtQ b)) = b ∧ mayB (gtA b) (gtB b) (gtS b) (gtQ b) = true ∧ tkN b ≤ 2147483647 := by
  simp only [gtOk, Bool.and_eq_true, decide_eq_true_eq] at h
  obtain ⟨hO, hR, hm⟩ := h
  obtain ⟨hlk, h16, hA, hB, hS⟩ := mayB_true hm
  have hl : (gtS b).length = gtN b := sgSs_len _ _
  have h8 : ∀ s ∈ gtS b, s.2.length ≤ 8 := fun s hs => by
    obtain ⟨j, hj, rfl⟩ := List.getElem_of_mem hs
    have := (sOk_true (hS j hj)).2.2.2.2.1
    have el : (gtS b).getD j (0, []) = (gtS b)[j] := by simp [List.getD, List.getElem?_eq_getElem hj]
    rwa [el] at this
  obtain ⟨h1, N, hN, h2⟩ := sgOs_true hO h8
  have o4 : tkOs b true 4 = true := h1
  simp only [tkOs] at o4
  obtain ⟨o3, d3, _⟩ := tkO_true o4
  obtain ⟨o2, d2, _⟩ := tkO_true o3
  obtain ⟨o1, d1, _⟩ := tkO_true o2
  obtain ⟨o0, d0, u0⟩ := tkO_true o1
  refine ⟨?_, hm, u0⟩
  have n3 : ((gtS b).length : Int) = (tkN (tkRs b 3) : Int) := by
    rw [hl] at h16 ⊢; unfold gtN at h16 ⊢; omega
  have hR0 : gtR b = [] := List.length_eq_zero_iff.1 hR
  have h2' : tkRs b 4 = cps N := by
    rw [show sgRs (tkRs b 4) (gtN b) = [] from hR0, List.append_nil] at h2
    exact h2
  have hN' : N = sNums (gtS b) (gtQ b) (gtS b).length := by rw [hl]; exact hN
  have e : snapNums (tkN b : Int) (gtA b) (gtB b) (gtS b) (gtQ b) = (tkN b : Int) :: gtA b :: gtB b :: (tkN (tkRs b 3) : Int) :: N := by
    rw [snapNums, n3, hN']; simp only [List.cons_append, List.nil_append]
  rw [e, cps_cons, cps_cons, cps_cons, cps_cons, ← h2', Int.toNat_natCast, gtA, gtB, Int.toNat_natCast, Int.toNat_natCast, Int.toNat_natCast]
  have f3 : codePut (tkN (tkRs b 3)) ++ tkRs b 4 = tkRs b 3 := by rw [show tkRs b 4 = tkR (tkRs b 3) from rfl]; exact d3.symm
  have f2 : codePut (tkN (tkRs b 2)) ++ tkRs b 3 = tkRs b 2 := by rw [show tkRs b 3 = tkR (tkRs b 2) from rfl]; exact d2.symm
  have f1 : codePut (tkN (tkRs b 1)) ++ tkRs b 2 = tkRs b 1 := by rw [show tkRs b 2 = tkR (tkRs b 1) from rfl]; exact d1.symm
  have f0 : codePut (tkN b) ++ tkRs b 1 = b := by rw [show tkRs b 1 = tkR b from rfl]; exact d0.symm
  rw [f3, f2, f1, f0]

end Go.Proofs.Ytmfonlkigjpjcaa
