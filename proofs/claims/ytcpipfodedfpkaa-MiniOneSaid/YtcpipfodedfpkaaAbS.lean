import Derived.Test.YtcpipfodedfpkaaAbE
import Derived.Sort.Grow
import Derived.Lib.SlicesCompact
namespace Go.Ab
open Go.Sort Go.RowKit
set_option linter.unusedSimpArgs false
set_option linter.unusedVariables false
def sortI (l : List Int) : List Int := l.mergeSort fun x y => decide (x ≤ y)
theorem sortI_perm (l : List Int) : (sortI l).Perm l := List.mergeSort_perm l _
theorem sortI_len (l : List Int) : (sortI l).length = l.length := (sortI_perm l).length_eq
abbrev intRows (l : List Int) : List (List D) := l.map fun x => [.v (.int .i64 x)]
theorem contractM_sort {P : Program} {f : FuncId}
    (hS : ∀ (blk off cap : Nat) (zs : List Int) (w : World), Holds (Value.int .i64) w blk off zs.toArray → blk < w.heap.size → zs.length < 4611686018427387904 →
      Calls P f #[.slice (some ⟨blk, off, none⟩) zs.length cap] w fun e w' => e = .returned (.tuple #[]) ∧ ∃ n os, w' = grow (putRow (Value.int .i64) (Sort.ahead w n) blk off (zs.mergeSort fun x y => decide (x ≤ y)).toArray) os)
    (h0 : ∀ (p : Option Addr) (cap : Nat) (w : World), Calls P f #[.slice p 0 cap] w fun e w' => e = .returned (.tuple #[]) ∧ w' = w)
    (l : List Int) (hl : l.length < 4611686018427387904) :
    ContractM P f [{ sz := 1, rows := intRows l }] [.own 0 0 l.length] (.tup []) [some { sz := 1, rows := intRows (sortI l) }] := by
  intro w I ρ vs hM hvs
  obtain ⟨lo, el, hlaid⟩ := hM.laid 0 { sz := 1, rows := intRows l } rfl
  match vs, hvs with
  | [v], hvs =>
  obtain ⟨hv, _⟩ := hvs
  have htup : ∀ (J : Imm) (r : Locs), Rep J r (.tup []) (.tuple #[]) := fun J r => .tup _ _ _ rfl fun i d x h1 h2 => by simp at h1
  let ρ' : Locs := fun j => if j = 0 then ρ 0 else none
  have hρ : ∀ j l', ρ' j = some l' → (outAt [some { sz := 1, rows := intRows (sortI l) }] j).isSome = true := fun j l' hj => by
    by_cases e : j = 0
    · subst e; rfl
    · simp only [ρ', e, if_false] at hj; cases hj
  have hout : ∀ j o, outAt [some { sz := 1, rows := intRows (sortI l) }] j = some o → j = 0 ∧ o = { sz := 1, rows := intRows (sortI l) } := fun j o ho => by
    match j, ho with
    | 0, ho => simp [outAt] at ho; exact ⟨rfl, ho.symm⟩
    | j + 1, ho => simp [outAt] at ho
  cases hv with
  | own _ _ _ _ l' a hl' hcap ha =>
    rw [el] at hl'; cases hl'
    have hsz : lo.sz = 1 := hlaid.sz
    by_cases hn : l.length = 0
    · have hnil : l = [] := List.length_eq_zero_iff.1 hn
      subst hnil
      refine (h0 a (lo.cap - 0) w).mono fun e w' ⟨he, hw⟩ => ?_
      subst hw
      refine ⟨_, ρ', I, he, fun _ _ q => q, fun _ _ q => .inl q, htup _ _, ⟨fun j o ho => ?_, fun i1 o1 l1 i2 o2 l2 b g1 m1 e1 b1 g2 m2 e2 b2 => ?_, hM.imm⟩, hρ, Ext.refl _ _, fun j o l2 b ho hw hl2 hb => ?_, fun j hj _ => ?_⟩
      · obtain ⟨rfl, rfl⟩ := hout j o ho
        refine ⟨lo, by simp only [ρ', if_true]; exact el, ?_⟩
        have : sortI [] = [] := by simp [sortI]
        rw [this]
        refine ⟨hlaid.sz, hlaid.pos, by simp [intRows], by simp [intRows], ?_⟩
        rcases hlaid.mem with q | ⟨b, c, e, u1, u2, g1, g2, g3, g4, g5, g6, g7, _⟩
        · exact .inl q
        · exact .inr ⟨b, c, e, u1, u2, g1, g2, g3, g4, g5, g6, g7, fun i j row d x h => by simp [intRows] at h⟩
      · rw [(hout _ _ g1).1, (hout _ _ g2).1]
      · obtain ⟨rfl, rfl⟩ := hout j o ho
        simp only [ρ', if_true] at hl2
        exact .inl ⟨0, _, l2, rfl, rfl, hl2, hb⟩
      · simp at hj; subst hj; simp [ρ']
    · rcases ha with ha | ⟨b, hb, ha⟩
      · omega
      · subst ha
        rcases hlaid.mem with q | ⟨b', c, e, u1, u2, g1, g2, g3, g4, g5, g6, g7, g8⟩
        · rw [q.1] at hb; cases hb
        · rw [hb] at g1; cases g1
          have hcells : ∀ j (hj : j < l.length), c[lo.off + j]? = some (.int .i64 l[j]) := fun j hj => by
            have hlt : lo.off + j < c.size := by have := hlaid.cap; simp only [hsz, intRows, List.length_map] at g4 this hcap; omega
            have hx : c[lo.off + j * 1 + 0]? = some (c[lo.off + j]) := by rw [Nat.mul_one, Nat.add_zero]; exact Array.getElem?_eq_getElem hlt
            have := g8 j 0 [.v (.int .i64 l[j])] (.v (.int .i64 l[j])) _ (by simp [intRows, hj]) rfl hx
            rw [Array.getElem?_eq_getElem hlt, rep_v_inv this]
          have hH : Holds (Value.int .i64) w b (lo.off + 0 * lo.sz) l.toArray := fun j hj => by
            have hj' : j < l.length := by simpa using hj
            rw [Nat.zero_mul, Nat.add_zero]
            refine ⟨?_, ?_⟩
            · simp only [World.cell?, g2]
              rw [hcells j hj']
              simp [hj']
            · simp only [World.frozen?, g2]
              have hlt : lo.off + j < c.size := (Array.getElem?_eq_some_iff.1 (hcells j hj')).1
              have := g3.no (lo.off + j) hlt
              simp only [Bool.and_eq_false_iff, decide_eq_false_iff_not]
              omega
          have hbl : b < w.heap.size := (Array.getElem?_eq_some_iff.1 g2).1
          refine (hS b (lo.off + 0 * lo.sz) (lo.cap - 0) l w hH hbl hl).mono fun e1 w' ⟨he, n, os, hw⟩ => ?_
          rw [Nat.zero_mul, Nat.add_zero] at hw
          let c' := putCells (Value.int .i64) lo.off (sortI l).toArray c
          have hpos : w.heap.size ≤ w'.heap.size := by rw [hw]; simp [grow, putRow, mapBlock, Sort.ahead]
          have hat : w'.heap[b]? = some (.cells c' e (u1, u2)) := by
            rw [hw]
            simp only [grow, putRow, mapBlock, Sort.ahead]
            rw [Array.getElem?_append_left (by simpa using hbl), Array.getElem?_modify, if_pos rfl, g2]
            rfl
          have hoth : ∀ k, k ≠ b → k < w.heap.size → w'.heap[k]? = w.heap[k]? := fun k hk hlt => by
            rw [hw]
            simp only [grow, putRow, mapBlock, Sort.ahead]
            rw [Array.getElem?_append_left (by simpa using hlt), Array.getElem?_modify, if_neg (Ne.symm hk)]
          have hI : I b = none := g6 rfl
          have hins : InsBlk [{ sz := 1, rows := intRows l }] ρ b := ⟨0, _, lo, rfl, rfl, el, hb⟩
          have hsl := sortI_len l
          refine ⟨_, ρ', I, he, fun _ _ q => q, fun _ _ q => .inl q, htup _ _, ⟨fun j o ho => ?_, fun i1 o1 l1 i2 o2 l2 b3 k1 m1 e2 b1 k2 m2 e3 b2 => ?_, fun b3 c3 q => ?_⟩, hρ, ⟨?_, ?_, ?_, hpos, fun k hk hM' => ?_⟩, fun j o l2 b3 ho hwr hl2 hb3 => ?_, fun j hj _ => ?_⟩
          · obtain ⟨rfl, rfl⟩ := hout j o ho
            refine ⟨lo, by simp only [ρ', if_true]; exact el, hsz, Nat.one_pos, by simp [intRows], ?_, .inr ⟨b, c', e, u1, u2, hb, hat, ?_, ?_, fun q => (by cases q), fun _ => hI, ?_, ?_⟩⟩
            · have := hlaid.cap
              simp only [intRows, List.length_map] at this ⊢
              omega
            · simpa [c', putCells] using g3
            · simpa [c', putCells] using g4
            · intro j x hx
              simp only [c', putCells, Array.getElem?_mapIdx] at hx
              cases hc : c[j]? with
              | none => simp [hc] at hx
              | some y =>
                simp only [hc, Option.map_some, Option.some.injEq] at hx
                split at hx
                · rw [← hx]; rfl
                · rw [← hx]; exact g7 j y hc
            · intro i j row d x hr hd hx
              simp only [intRows, List.getElem?_map] at hr
              cases hz : (sortI l)[i]? with
              | none => simp [hz] at hr
              | some y =>
                simp only [hz, Option.map_some, Option.some.injEq] at hr
                subst hr
                have hil : i < (sortI l).length := (List.getElem?_eq_some_iff.1 hz).1
                match j, hd with
                | 0, hd =>
                  simp at hd
                  subst hd
                  simp only [Nat.mul_one, Nat.add_zero, c', putCells, Array.getElem?_mapIdx] at hx
                  have hlt : lo.off + i < c.size := (Array.getElem?_eq_some_iff.1 (hcells i (by omega))).1
                  rw [Array.getElem?_eq_getElem hlt, Option.map_some, Option.some.injEq, if_pos (by simp; omega)] at hx
                  rw [← hx]
                  have : (sortI l).toArray[lo.off + i - lo.off]! = y := by
                    rw [Nat.add_sub_cancel_left]
                    simp [hz]
                  rw [this]
                  exact .v _ _
                | j + 1, hd => simp at hd
          · rw [(hout _ _ k1).1, (hout _ _ k2).1]
          · obtain ⟨e4, fr, h4⟩ := hM.imm b3 c3 q
            have hne : b3 ≠ b := by rintro rfl; rw [hI] at q; cases q
            exact ⟨e4, fr, by rw [hoth b3 hne (hM.imm.lt q)]; exact h4⟩
          · rw [hw]; rfl
          · rw [hw]; rfl
          · rw [hw]; rfl
          · exact hoth k (fun e => hM' (e ▸ hins)) hk
          · obtain ⟨rfl, rfl⟩ := hout j o ho
            simp only [ρ', if_true] at hl2
            rw [el] at hl2; cases hl2
            rw [hb] at hb3; cases hb3
            exact .inl hins
          · simp at hj; subst hj; simp [ρ']
def cptI (l : List Int) : List Int := Lib.compact l
theorem cptI_le (l : List Int) : (cptI l).length ≤ l.length := by
  unfold cptI Lib.compact Lib.compactUpTo
  rw [List.length_map]
  have := List.length_filter_le (Lib.keeps l.toArray) (List.range l.length)
  simpa using this
def cpzI (l : List Int) : List Int := cptI l ++ List.replicate (l.length - (cptI l).length) 0
theorem cpzI_len (l : List Int) : (cpzI l).length = l.length := by
  have := cptI_le l
  simp [cpzI]; omega
theorem contractM_compact {P : Program} {f : FuncId}
    (hS : ∀ (blk off cap : Nat) (zs : List Int) (w : World), Holds (Value.int .i64) w blk off zs.toArray → zs.length ≤ 9223372036854775807 → zs.length ≤ cap →
      Calls P f #[.slice (some ⟨blk, off, none⟩) zs.length cap] w fun e w' => e = .returned (.slice (some ⟨blk, off, none⟩) (cptI zs).length cap) ∧ ∃ n, w' = putRow (Value.int .i64) (Sort.ahead w n) blk off (cpzI zs).toArray)
    (h0 : ∀ (p : Option Addr) (cap : Nat) (w : World), Calls P f #[.slice p 0 cap] w fun e w' => e = .returned (.slice p 0 cap) ∧ w' = w)
    (l : List Int) (hl : l.length ≤ 9223372036854775807) :
    ContractM P f [{ sz := 1, rows := intRows l }] [.own 0 0 l.length] (.own 0 0 (cptI l).length) [some { sz := 1, rows := intRows (cpzI l) }] := by
  intro w I ρ vs hM hvs
  obtain ⟨lo, el, hlaid⟩ := hM.laid 0 { sz := 1, rows := intRows l } rfl
  match vs, hvs with
  | [v], hvs =>
  obtain ⟨hv, _⟩ := hvs
  have hcl := cptI_le l
  let ρ' : Locs := fun j => if j = 0 then ρ 0 else none
  have hρ : ∀ j l', ρ' j = some l' → (outAt [some { sz := 1, rows := intRows (cpzI l) }] j).isSome = true := fun j l' hj => by
    by_cases e : j = 0
    · subst e; rfl
    · simp only [ρ', e, if_false] at hj; cases hj
  have hout : ∀ j o, outAt [some { sz := 1, rows := intRows (cpzI l) }] j = some o → j = 0 ∧ o = { sz := 1, rows := intRows (cpzI l) } := fun j o ho => by
    match j, ho with
    | 0, ho => simp [outAt] at ho; exact ⟨rfl, ho.symm⟩
    | j + 1, ho => simp [outAt] at ho
  cases hv with
  | own _ _ _ _ l' a hl' hcap ha =>
    rw [el] at hl'; cases hl'
    have hsz : lo.sz = 1 := hlaid.sz
    by_cases hn : l.length = 0
    · have hnil : l = [] := List.length_eq_zero_iff.1 hn
      subst hnil
      refine (h0 a (lo.cap - 0) w).mono fun e w' ⟨he, hw⟩ => ?_
      subst hw
      refine ⟨_, ρ', I, he, fun _ _ q => q, fun _ _ q => .inl q, by
        have hz : (cptI []).length = 0 := by simpa using hcl
        rw [hz]
        exact Rep.own (I := I) ρ' 0 0 0 lo a (by simp only [ρ', if_true]; exact el) (by omega) ha, ⟨fun j o ho => ?_, fun i1 o1 l1 i2 o2 l2 b g1 m1 e1 b1 g2 m2 e2 b2 => ?_, hM.imm⟩, hρ, Ext.refl _ _, fun j o l2 b ho hw hl2 hb => ?_, fun j hj _ => ?_⟩
      · obtain ⟨rfl, rfl⟩ := hout j o ho
        refine ⟨lo, by simp only [ρ', if_true]; exact el, ?_⟩
        have : cpzI [] = [] := List.length_eq_zero_iff.1 (cpzI_len [])
        rw [this]
        refine ⟨hlaid.sz, hlaid.pos, by simp [intRows], by simp [intRows], ?_⟩
        rcases hlaid.mem with q | ⟨b, c, e, u1, u2, g1, g2, g3, g4, g5, g6, g7, _⟩
        · exact .inl q
        · exact .inr ⟨b, c, e, u1, u2, g1, g2, g3, g4, g5, g6, g7, fun i j row d x h => by simp [intRows] at h⟩
      · rw [(hout _ _ g1).1, (hout _ _ g2).1]
      · obtain ⟨rfl, rfl⟩ := hout j o ho
        simp only [ρ', if_true] at hl2
        exact .inl ⟨0, _, l2, rfl, rfl, hl2, hb⟩
      · simp at hj; subst hj; simp [ρ']
    · rcases ha with ha | ⟨b, hb, ha⟩
      · omega
      · subst ha
        rcases hlaid.mem with q | ⟨b', c, e, u1, u2, g1, g2, g3, g4, g5, g6, g7, g8⟩
        · rw [q.1] at hb; cases hb
        · rw [hb] at g1; cases g1
          have hcells : ∀ j (hj : j < l.length), c[lo.off + j]? = some (.int .i64 l[j]) := fun j hj => by
            have hlt : lo.off + j < c.size := by have := hlaid.cap; simp only [hsz, intRows, List.length_map] at g4 this hcap; omega
            have hx : c[lo.off + j * 1 + 0]? = some (c[lo.off + j]) := by rw [Nat.mul_one, Nat.add_zero]; exact Array.getElem?_eq_getElem hlt
            have := g8 j 0 [.v (.int .i64 l[j])] (.v (.int .i64 l[j])) _ (by simp [intRows, hj]) rfl hx
            rw [Array.getElem?_eq_getElem hlt, rep_v_inv this]
          have hH : Holds (Value.int .i64) w b (lo.off + 0 * lo.sz) l.toArray := fun j hj => by
            have hj' : j < l.length := by simpa using hj
            rw [Nat.zero_mul, Nat.add_zero]
            refine ⟨?_, ?_⟩
            · simp only [World.cell?, g2]
              rw [hcells j hj']
              simp [hj']
            · simp only [World.frozen?, g2]
              have hlt : lo.off + j < c.size := (Array.getElem?_eq_some_iff.1 (hcells j hj')).1
              have := g3.no (lo.off + j) hlt
              simp only [Bool.and_eq_false_iff, decide_eq_false_iff_not]
              omega
          have hbl : b < w.heap.size := (Array.getElem?_eq_some_iff.1 g2).1
          refine (hS b (lo.off + 0 * lo.sz) (lo.cap - 0) l w hH hl (by omega)).mono fun e1 w' ⟨he, n, hw⟩ => ?_
          rw [Nat.zero_mul, Nat.add_zero] at hw
          let c' := putCells (Value.int .i64) lo.off (cpzI l).toArray c
          have hpos : w.heap.size ≤ w'.heap.size := by rw [hw]; simp [putRow, mapBlock, Sort.ahead]
          have hat : w'.heap[b]? = some (.cells c' e (u1, u2)) := by
            rw [hw]
            simp only [putRow, mapBlock, Sort.ahead]
            rw [Array.getElem?_modify, if_pos rfl, g2]
            rfl
          have hoth : ∀ k, k ≠ b → k < w.heap.size → w'.heap[k]? = w.heap[k]? := fun k hk hlt => by
            rw [hw]
            simp only [putRow, mapBlock, Sort.ahead]
            rw [Array.getElem?_modify, if_neg (Ne.symm hk)]
          have hI : I b = none := g6 rfl
          have hins : InsBlk [{ sz := 1, rows := intRows l }] ρ b := ⟨0, _, lo, rfl, rfl, el, hb⟩
          have hsl := cpzI_len l
          refine ⟨_, ρ', I, he, fun _ _ q => q, fun _ _ q => .inl q, by
            have := Rep.own (I := I) ρ' 0 0 (cptI l).length lo (some ⟨b, lo.off + 0 * lo.sz, none⟩) (by simp only [ρ', if_true]; exact el) (by omega) (.inr ⟨b, hb, rfl⟩)
            exact this, ⟨fun j o ho => ?_, fun i1 o1 l1 i2 o2 l2 b3 k1 m1 e2 b1 k2 m2 e3 b2 => ?_, fun b3 c3 q => ?_⟩, hρ, ⟨?_, ?_, ?_, hpos, fun k hk hM' => ?_⟩, fun j o l2 b3 ho hwr hl2 hb3 => ?_, fun j hj _ => ?_⟩
          · obtain ⟨rfl, rfl⟩ := hout j o ho
            refine ⟨lo, by simp only [ρ', if_true]; exact el, hsz, Nat.one_pos, by simp [intRows], ?_, .inr ⟨b, c', e, u1, u2, hb, hat, ?_, ?_, fun q => (by cases q), fun _ => hI, ?_, ?_⟩⟩
            · have := hlaid.cap
              simp only [intRows, List.length_map] at this ⊢
              omega
            · simpa [c', putCells] using g3
            · simpa [c', putCells] using g4
            · intro j x hx
              simp only [c', putCells, Array.getElem?_mapIdx] at hx
              cases hc : c[j]? with
              | none => simp [hc] at hx
              | some y =>
                simp only [hc, Option.map_some, Option.some.injEq] at hx
                split at hx
                · rw [← hx]; rfl
                · rw [← hx]; exact g7 j y hc
            · intro i j row d x hr hd hx
              simp only [intRows, List.getElem?_map] at hr
              cases hz : (cpzI l)[i]? with
              | none => simp [hz] at hr
              | some y =>
                simp only [hz, Option.map_some, Option.some.injEq] at hr
                subst hr
                have hil : i < (cpzI l).length := (List.getElem?_eq_some_iff.1 hz).1
                match j, hd with
                | 0, hd =>
                  simp at hd
                  subst hd
                  simp only [Nat.mul_one, Nat.add_zero, c', putCells, Array.getElem?_mapIdx] at hx
                  have hlt : lo.off + i < c.size := (Array.getElem?_eq_some_iff.1 (hcells i (by omega))).1
                  rw [Array.getElem?_eq_getElem hlt, Option.map_some, Option.some.injEq, if_pos (by simp; omega)] at hx
                  rw [← hx]
                  have : (cpzI l).toArray[lo.off + i - lo.off]! = y := by
                    rw [Nat.add_sub_cancel_left]
                    simp [hz]
                  rw [this]
                  exact .v _ _
                | j + 1, hd => simp at hd
          · rw [(hout _ _ k1).1, (hout _ _ k2).1]
          · obtain ⟨e4, fr, h4⟩ := hM.imm b3 c3 q
            have hne : b3 ≠ b := by rintro rfl; rw [hI] at q; cases q
            exact ⟨e4, fr, by rw [hoth b3 hne (hM.imm.lt q)]; exact h4⟩
          · rw [hw]; rfl
          · rw [hw]; rfl
          · rw [hw]; rfl
          · exact hoth k (fun e => hM' (e ▸ hins)) hk
          · obtain ⟨rfl, rfl⟩ := hout j o ho
            simp only [ρ', if_true] at hl2
            rw [el] at hl2; cases hl2
            rw [hb] at hb3; cases hb3
            exact .inl hins
          · simp at hj; subst hj; simp [ρ']
end Go.Ab
