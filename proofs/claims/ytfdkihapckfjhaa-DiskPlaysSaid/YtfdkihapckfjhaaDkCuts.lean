/-
  The law DiskCuts: plain facts.
-/
import Derived.Test.YtfdkihapckfjhaaDkLaw
namespace Go.Proofs.Ytfdkihapckfjhaa
open Go.Ab
set_option linter.unusedSimpArgs false
set_option linter.unusedVariables false

theorem and_at (c : Int) (m : Nat) (hm : m ≤ 65535) : (BitVec.ofInt IntKind.i64.bits c &&& BitVec.ofInt IntKind.i64.bits (m : Int)).toNat ≤ m ∧ IntKind.i64.wrap ((BitVec.ofInt IntKind.i64.bits c &&& BitVec.ofInt IntKind.i64.bits (m : Int)).toNat : Int) = ((BitVec.ofInt IntKind.i64.bits c &&& BitVec.ofInt IntKind.i64.bits (m : Int)).toNat : Int) := by
  have h1 : (BitVec.ofInt IntKind.i64.bits c &&& BitVec.ofInt IntKind.i64.bits (m : Int)).toNat ≤ m := by
    rw [BitVec.toNat_and]
    have e2 : (BitVec.ofInt IntKind.i64.bits (m : Int)).toNat = m := by
      rw [BitVec.toNat_ofInt]
      show ((m : Int) % 18446744073709551616).toNat = m
      omega
    rw [e2]
    exact Nat.and_le_right
  exact ⟨h1, i64_in (by omega) (by omega)⟩

theorem u8_add (a b : UInt8) : IntKind.u8.wrap ((a.toNat : Int) + (b.toNat : Int)) = ((a + b).toNat : Int) := by
  have : (a + b).toNat = (a.toNat + b.toNat) % 256 := by simp [UInt8.toNat_add]
  rw [this]
  simp [IntKind.wrap, IntKind.bits, IntKind.signed]

theorem putAt_zero (m : List UInt8) (k : Nat) (data : List UInt8) : putAt m k data 0 = m := by simp [putAt]
theorem putAt_succ {m : List UInt8} {k : Nat} {data : List UInt8} {c : Nat} (hl : m.length = 2048) (hk : k < 64) (hd : data.length = 32) (hc : c < 32) : (putAt m k data c).set (32 * k + c) (data.getD c 0) = putAt m k data (c + 1) := by
  have h1 : (m.take (32 * k)).length = 32 * k := by simp; omega
  have h2 : (data.take c).length = c := by simp; omega
  have h3 : m.drop (32 * k + c) = (m[32 * k + c]'(by omega)) :: m.drop (32 * k + (c + 1)) := by
    rw [List.drop_eq_getElem_cons (by omega)]; rfl
  have h4 : data.take (c + 1) = data.take c ++ [data.getD c 0] := by
    rw [List.take_add_one, List.getElem?_eq_getElem (by omega)]; simp [List.getD, List.getElem?_eq_getElem (show c < data.length by omega)]
  unfold putAt
  rw [List.set_append, if_neg (by omega), h1, List.set_append, if_neg (by omega), h2, h3, h4]
  simp [show 32 * k + c - 32 * k - c = 0 by omega]

section
variable (bl : List Int) (fill : UInt8)
def blk (j : Nat) : Nat := (BitVec.ofInt IntKind.i64.bits (bl.getD j 0) &&& BitVec.ofInt IntKind.i64.bits ((7 : Nat) : Int)).toNat
theorem blk_le (j : Nat) : blk bl j ≤ 7 := (and_at _ 7 (by decide)).1
def datP (j n : Nat) : List UInt8 := (List.range n).map fun k => fill + UInt8.ofNat (32 * j + k)
def dat (j : Nat) : List UInt8 := datP fill j 32
theorem datP_len (j n : Nat) : (datP fill j n).length = n := by simp [datP]
theorem dat_len (j : Nat) : (dat fill j).length = 32 := datP_len fill j 32
theorem datP_succ (j n : Nat) : datP fill j (n + 1) = datP fill j n ++ [fill + UInt8.ofNat (32 * j + n)] := by simp [datP, List.range_succ]
def planL (n : Nat) : List (Nat × List UInt8) := (List.range n).map fun j => (blk bl j, dat fill j)
theorem planL_len (n : Nat) : (planL bl fill n).length = n := by simp [planL]
theorem planL_succ (n : Nat) : planL bl fill (n + 1) = planL bl fill n ++ [(blk bl n, dat fill n)] := by simp [planL, List.range_succ]
theorem planL_mem (n : Nat) : ∀ x ∈ planL bl fill n, x.1 < 64 ∧ x.2.length = 32 := by
  intro x hx
  simp only [planL, List.mem_map] at hx
  obtain ⟨j, _, rfl⟩ := hx
  have := blk_le bl j
  exact ⟨by simp only; omega, dat_len fill j⟩
end

/-- Writing till nothing is left. -/
def doF (l : List (Nat × List UInt8)) (s : List UInt8 × Nat) : List UInt8 × Nat := l.foldl (fun s w => (putAt s.1 w.1 w.2 (min 32 s.2), s.2 - min 32 s.2)) s
theorem doF_zero : ∀ (l : List (Nat × List UInt8)) (m : List UInt8), doF l (m, 0) = (m, 0)
  | [], _ => rfl
  | w :: ws, m => by
    have := doF_zero ws m
    simp only [doF, List.foldl_cons, Nat.min_zero, putAt_zero, Nat.sub_zero]
    exact this
theorem doD_doF : ∀ (l : List (Nat × List UInt8)) (left : Nat) (m : List UInt8), (doD l left m).2.1 = (doF l (m, left)).1 ∧ (doD l left m).1 = decide (32 * l.length ≤ left)
  | [], left, m => by simp [doD, doF]
  | w :: ws, left, m => by
    unfold doD
    split
    · rename_i h
      subst h
      rw [doF_zero]
      simp
    · split
      · rename_i h0 h
        have e : doF (w :: ws) (m, left) = doF ws (putAt m w.1 w.2 left, 0) := by
          simp only [doF, List.foldl_cons]
          rw [Nat.min_eq_right (by omega), Nat.sub_self]
        rw [e, doF_zero]
        simp; omega
      · rename_i h0 h
        have e : doF (w :: ws) (m, left) = doF ws (putAt m w.1 w.2 32, left - 32) := by
          simp only [doF, List.foldl_cons]
          rw [Nat.min_eq_left (by omega)]
        obtain ⟨i1, i2⟩ := doD_doF ws (left - 32) (putAt m w.1 w.2 32)
        rw [e, ← i1]
        refine ⟨rfl, ?_⟩
        simp only [i2, List.length_cons]
        rw [Bool.eq_iff_iff]; simp; omega
theorem doF_snoc (l : List (Nat × List UInt8)) (w : Nat × List UInt8) (s : List UInt8 × Nat) : doF (l ++ [w]) s = (putAt (doF l s).1 w.1 w.2 (min 32 (doF l s).2), (doF l s).2 - min 32 (doF l s).2) := by
  simp [doF]
theorem doF_len : ∀ (l : List (Nat × List UInt8)) (s : List UInt8 × Nat), (∀ w ∈ l, w.1 < 64 ∧ w.2.length = 32) → s.1.length = 2048 → (doF l s).1.length = 2048 ∧ (doF l s).2 ≤ s.2
  | [], s, _, hm => ⟨hm, Nat.le_refl _⟩
  | w :: ws, s, h, hm => by
    have hw := h w (by simp)
    have := doF_len ws (putAt s.1 w.1 w.2 (min 32 s.2), s.2 - min 32 s.2) (fun x hx => h x (by simp [hx])) (putAt_len hm hw.1 hw.2 (by omega))
    exact ⟨this.1, Nat.le_trans this.2 (Nat.sub_le _ _)⟩

theorem noI_bys (l : List UInt8) : AObj.noI { sz := 1, rows := bys l } = true := by
  simp [AObj.noI, bys, D.noIL, D.noI]

/-- The first blocks full of ones. -/
def b0 (k : Nat) : List UInt8 := List.replicate (32 * k) 1 ++ List.replicate (2048 - 32 * k) 0
theorem b0_len {k : Nat} (h : k ≤ 64) : (b0 k).length = 2048 := by simp [b0]; omega
theorem b0_zero : b0 0 = zer 2048 := rfl
def old0 (i : Nat) : List UInt8 := List.replicate i 1 ++ List.replicate (32 - i) 0
theorem old0_len {i : Nat} (h : i ≤ 32) : (old0 i).length = 32 := by simp [old0]; omega
theorem old0_zero : old0 0 = zer 32 := rfl
theorem old0_set {i : Nat} (h : i < 32) : (old0 i).set i 1 = old0 (i + 1) := by
  unfold old0
  rw [List.set_append, if_neg (by simp), List.length_replicate, Nat.sub_self, show 32 - i = (32 - (i + 1)) + 1 by omega, List.replicate_succ (a := (0 : UInt8)), List.set_cons_zero, List.replicate_succ' (a := (1 : UInt8)), List.append_assoc]
  rfl
theorem b0_put {k : Nat} (h : k < 64) : putAt (b0 k) k (old0 32) 32 = b0 (k + 1) := by
  have h1 : (b0 k).take (32 * k) = List.replicate (32 * k) 1 := by
    unfold b0
    rw [List.take_append_of_le_length (by simp), List.take_of_length_le (by simp)]
  have h2 : (b0 k).drop (32 * k + 32) = List.replicate (2048 - 32 * (k + 1)) 0 := by
    unfold b0
    rw [List.drop_append, List.drop_eq_nil_of_le (by simp), List.nil_append, List.length_replicate, List.drop_replicate]
    congr 1; omega
  have h3 : (old0 32).take 32 = List.replicate 32 1 := by
    rw [List.take_of_length_le (by rw [old0_len (by omega)]; omega)]; simp [old0]
  unfold putAt
  rw [h1, h2, h3]
  unfold b0
  rw [← List.append_assoc, List.replicate_append_replicate]
  rfl

end Go.Proofs.Ytfdkihapckfjhaa
