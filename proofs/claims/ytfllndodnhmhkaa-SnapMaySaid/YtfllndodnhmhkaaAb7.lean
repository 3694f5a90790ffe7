/-
  ABSTRACT DATA FOR WALKS, 7: append, copy, stores.
-/
import Derived.Test.YtfllndodnhmhkaaAb6
namespace Go.Ab
set_option linter.unusedSimpArgs false
set_option linter.unusedVariables false

section
variable {P : Program} {E : Ent} {st : St} {a : Act} {w : World} {ρ : Locs} {I : Imm} {tt : TypeId → Option TI}

/-! ### what is written, in memory -/

theorem run_storeCells_fr (g o : Nat) (t : TypeId) (lo hi : Nat) : ∀ (vs : List Value) (i : Nat) (cur : Array Value) (w : World), w.heap[g]? = some (.cells cur t (lo, hi)) → (∀ j, j < cur.size → ¬ (lo ≤ j ∧ j < hi)) → o + i + vs.length ≤ cur.size → (∀ v ∈ vs, v.oneCell' = true) →
    (storeCells ⟨g, o, none⟩ vs i).run P w = .ok () (w.setRow g (cur.toList.take (o + i) ++ vs ++ cur.toList.drop (o + i + vs.length)).toArray)
  | [], i, cur, w, hg, _, _, _ => by
    simp only [storeCells, List.append_nil, List.length_nil, Nat.add_zero, List.take_append_drop, Array.toArray_toList]
    rw [setRow_self w g cur t (lo, hi) hg]
    rfl
  | v :: rest, i, cur, w, hg, hf, hl, h1 => by
    have hi' : o + i < cur.size := by simp at hl; omega
    have hadd : (⟨g, o, none⟩ : Addr).add i = ⟨g, o + i, none⟩ := Addr.add_lit _ _ _
    have hcell : w.cell? ⟨g, o + i, none⟩ = some cur[o + i] := by simp [World.cell?, hg, hi']
    have hfro : w.frozen? ⟨g, o + i, none⟩ = false := by
      have := hf _ hi'
      simp only [World.frozen?, hg]
      simp only [Bool.and_eq_false_iff, decide_eq_false_iff_not]
      omega
    have hst : (store ((⟨g, o, none⟩ : Addr).add i) v).run P w = .ok () (w.setRow g (cur.setIfInBounds (o + i) v)) := by
      rw [hadd, run_store P w _ v _ (h1 v (by simp)), hcell]
      simp [hfro, setCell_eq_setRow w g (o + i) cur t (lo, hi) v hg]
    have ih := run_storeCells_fr g o t lo hi rest (i + 1) (cur.setIfInBounds (o + i) v) (w.setRow g (cur.setIfInBounds (o + i) v)) (setRow_heap w g cur _ t _ hg) (by simpa using hf) (by simp at hl ⊢; omega) (fun x hx => h1 x (by simp [hx]))
    simp only [storeCells, Sem.run_bind, hst, Result.andThen_ok, ih, setRow_setRow]
    congr 3
    have e := list_seg_step cur.toList (o + i) v rest (by simp at hl ⊢; omega)
    simpa [Array.toList_setIfInBounds, Nat.add_assoc] using e

/-- Cells written over others. -/
def over (cur : Array Value) (k : Nat) (vs : List Value) : Array Value := (cur.toList.take k ++ vs ++ cur.toList.drop (k + vs.length)).toArray

theorem over_size {cur : Array Value} {k : Nat} {vs : List Value} (h : k + vs.length ≤ cur.size) : (over cur k vs).size = cur.size := by
  simp [over]; omega
theorem over_get {cur : Array Value} {k : Nat} {vs : List Value} (h : k + vs.length ≤ cur.size) (j : Nat) : (over cur k vs)[j]? = if k ≤ j ∧ j < k + vs.length then vs[j - k]? else cur[j]? := by
  simp only [over, List.getElem?_toArray]
  by_cases h1 : j < k
  · rw [if_neg (by omega), List.append_assoc, List.getElem?_append_left (by simp; omega), List.getElem?_take, if_pos h1]; simp
  · by_cases h2 : j < k + vs.length
    · rw [if_pos (by omega), List.append_assoc, List.getElem?_append_right (by simp; omega)]
      have e : (cur.toList.take k).length = k := by simp; omega
      rw [e, List.getElem?_append_left (by omega)]
    · rw [if_neg (by omega), List.append_assoc, List.getElem?_append_right (by simp; omega)]
      have e : (cur.toList.take k).length = k := by simp; omega
      rw [e, List.getElem?_append_right (by omega), List.getElem?_drop]
      have e2 : k + vs.length + (j - k - vs.length) = j := by omega
      rw [e2]; simp

theorem run_store_over {g o : Nat} {t : TypeId} {lo hi : Nat} {vs : List Value} {cur : Array Value} (hg : w.heap[g]? = some (.cells cur t (lo, hi))) (hf : ∀ j, j < cur.size → ¬ (lo ≤ j ∧ j < hi)) (hl : o + vs.length ≤ cur.size) (h1 : ∀ v ∈ vs, v.oneCell' = true) :
    (storeCells ⟨g, o, none⟩ vs).run P w = .ok () (w.setRow g (over cur o vs)) := by
  have := run_storeCells_fr (P := P) g o t lo hi vs 0 cur w hg hf (by simpa using hl) h1
  simpa [over] using this

theorem over_one {cur : Array Value} {k : Nat} {vs : List Value} (h : k + vs.length ≤ cur.size) (hc : ∀ (j : Nat) (x : Value), cur[j]? = some x → x.oneCell' = true) (hv : ∀ v ∈ vs, v.oneCell' = true) (j : Nat) (x : Value) (hx : (over cur k vs)[j]? = some x) : x.oneCell' = true := by
  rw [over_get h] at hx
  split at hx
  · exact hv _ (List.mem_of_getElem? hx)
  · exact hc _ _ hx

theorem rebind_setRow {id b : Nat} {c cs : Array Value} {t : TypeId} {fr : Nat × Nat} {o : AObj} {l : Loc} (ho : st.heap id = some o) (hw : o.wr = true) (hl : ρ id = some l) (hb : l.blk = some b) : Rebind st w (w.setRow b cs) ρ id b :=
  ⟨rfl, rfl, rfl, by simp, fun k hk _ => setRow_other w b k cs hk, .inr ⟨o, l, ho, hw, hl, hb⟩⟩

/-! ### sources -/

def byteRows (s : ByteArray) : List (List D) := s.data.toList.map fun b => [.v (.int .u8 (b.toNat : Int))]

def isIntT : TypeDesc → Option IntKind
  | .int k => some k
  | _ => none

def srcD (tt : TypeId → Option TI) (st : St) (X : TypeId) (ei : TI) (d : D) : Option (Prop × List (List D)) :=
  match tt X with
  | none => none
  | some xi => match isIntT xi.und with
    | some _ => match d with
      | .v (.int _ n) => some (0 ≤ n ∧ n.toNat * ei.bytes ≤ 140737488355328 ∧ n ≤ 9223372036854775807, List.replicate n.toNat (ei.zero.cells.toList.map ofAtom))
      | _ => none
    | none => match d with
      | .sl _ rows => some (True, rows)
      | .own id off len => match st.heap id with
        | some o => some (off + len ≤ o.rows.length ∧ o.flat = true, (o.rows.drop off).take len)
        | none => none
      | .v (.string s) => some (ei.sz = 1, byteRows s)
      | _ => none

/-- What append and copy read: so many elements, these cells. -/
structure Source (P : Program) (w : World) (X e : TypeId) (i : TypeInfo) (z : Array Value) (x : Value) (n : Nat) (cs : List Value) : Prop where
  und : ∃ d, P.underlying X = some d ∧ (((∀ k, d ≠ .int k) ∧ (∀ w', (Builtin.lenOf x).run P w' = .ok n w') ∧ (∀ w' m, w'.heap = w.heap → m ≤ n → (Builtin.firstCells i.size m x).run P w' = .ok (cs.take (m * i.size)).toArray w')) ∨
    ((∃ k, d = .int k) ∧ (∃ kk, x = .int kk n) ∧ n * i.bytes ≤ 140737488355328 ∧ (n : Int) ≤ 9223372036854775807 ∧ cs.toArray = Builtin.zeroCells z n ∧ z.size = i.size))

theorem laid_flat {o : AObj} {l : Loc} (hf : o.flat = true) (h : LaidObj I ρ w o l) : LaidObj I noLocs w o l := by
  refine ⟨h.sz, h.pos, h.rows, h.cap, ?_⟩
  rcases h.mem with h0 | ⟨b, c, e, lo, hi, h1, h2, h3, h4, h5, h6, hone, h7⟩
  · exact .inl h0
  · refine .inr ⟨b, c, e, lo, hi, h1, h2, h3, h4, h5, h6, hone, fun i j row d x q1 q2 q3 => ?_⟩
    have := h7 i j row d x q1 q2 q3
    simpa [hf] using this

theorem Rows.source {rows : List (List D)} {b o sz : Nat} {ρ' : Locs} (h : Rows I ρ' w rows sz b o) : ∃ cs : List Value, cs.length = rows.length * sz ∧ (∀ v ∈ cs, v.oneCell' = true) ∧ FlatRep I ρ' sz rows cs.toArray ∧
    ∀ w' m len cap, w'.heap = w.heap → m ≤ rows.length → (Builtin.firstCells sz m (.slice (some ⟨b, o, none⟩) len cap)).run P w' = .ok (cs.take (m * sz)).toArray w' := by
  obtain ⟨cs, c1, c2, c3⟩ := h.load
  refine ⟨cs, c1, fun v hv => ?_, fun i j row d x h1 h2 h3 => c3 i j row d x h1 h2 (by simpa using h3), fun w' m len cap hw hm => ?_⟩
  · obtain ⟨j, hj⟩ := List.getElem?_of_mem hv
    exact (c2 j v hj).2
  · have hle : m * sz ≤ rows.length * sz := Nat.mul_le_mul_right _ hm
    refine run_firstCells_some (P := P) w' sz m ⟨b, o, none⟩ len cap (cs.take (m * sz)) (by simp; omega) fun j v hv => ?_
    rw [List.getElem?_take] at hv
    split at hv
    · have := (c2 j v hv).1
      rw [World.cell?_of_block (w := w) (w' := w') (by rw [hw])]
      exact this
    · cases hv

theorem firstCells_zero {sz : Nat} {ad : Option Addr} {len cap : Nat} : (Builtin.firstCells sz 0 (.slice ad len cap)).run P w = .ok #[] w := by
  cases ad <;> simp [Builtin.firstCells, loadCells, loadCellsFrom]

theorem source_of_rows {X e : TypeId} {i : TypeInfo} {z : Array Value} {xi : TI} (hX : P.underlying X = some xi.und) (hn : isIntT xi.und = none) {ad : Option Addr} {cap : Nat} {rows : List (List D)} {ρ' : Locs}
    (hr : rows ≠ [] → ∃ b o sz, ad = some ⟨b, o, none⟩ ∧ Rows I ρ' w rows sz b o) (hlen : ∀ row ∈ rows, row.length = i.size) :
    ∃ cs, Source P w X e i z (.slice ad rows.length cap) rows.length cs ∧ cs.length = rows.length * i.size ∧ (∀ v ∈ cs, v.oneCell' = true) ∧ FlatRep I ρ' i.size rows cs.toArray := by
  have hni : ∀ k, xi.und ≠ .int k := by intro k hk; rw [hk] at hn; cases hn
  by_cases hne : rows = []
  · subst hne
    refine ⟨[], ⟨_, hX, .inl ⟨hni, fun w' => by simp [Builtin.lenOf], fun w' m hw hm => ?_⟩⟩, by simp, by simp, fun i j row d x h1 => by simp at h1⟩
    simp at hm; subst hm
    simpa using firstCells_zero
  · obtain ⟨b, o, sz, rfl, hrs⟩ := hr hne
    have hsz : sz = i.size := by
      cases rows with
      | nil => exact absurd rfl hne
      | cons r rs => rw [← hrs.len r (by simp), hlen r (by simp)]
    subst hsz
    obtain ⟨cs, c1, c2, c3, c4⟩ := hrs.source (P := P)
    exact ⟨cs, ⟨_, hX, .inl ⟨hni, fun w' => by simp [Builtin.lenOf], fun w' m hw hm => c4 w' m _ _ hw hm⟩⟩, c1, c2, c3⟩

theorem zeroCells_made (z : Array Value) (n sz : Nat) (hz : z.size = sz) : Builtin.zeroCells z n = madeCells z (n * sz) := by
  subst hz; rfl

theorem RB.source (ht : TTok P tt) (h : RB E st a w ρ I) {X e : TypeId} {ei : TI} (he : tt e = some ei) {i : TypeInfo} (hi : P.info? e = some i) {d : D} {p : Prop} {rows : List (List D)} (hs : srcD tt st X ei d = some (p, rows)) (hp : p)
    (hrl : ∀ row ∈ rows, row.length = ei.sz) (hpos : 0 < ei.sz) {x : Value} (hx : Rep I ρ d x) :
    ∃ cs, Source P w X e i ei.zero.cells x rows.length cs ∧ cs.length = rows.length * ei.sz ∧ (∀ v ∈ cs, v.oneCell' = true) ∧ FlatRep I noLocs ei.sz rows cs.toArray := by
  obtain ⟨info, t1, t2, t3, t4, t5, t6, t7, -⟩ := ht e ei he
  rw [hi] at t1; cases t1
  unfold srcD at hs
  cases hX : tt X with
  | none => simp [hX] at hs
  | some xi =>
    have hXu := und_of ht hX
    simp only [hX] at hs
    cases hint : isIntT xi.und with
    | some k =>
      simp only [hint] at hs
      split at hs
      · rename_i kk n
        simp only [Option.some.injEq, Prod.mk.injEq] at hs
        obtain ⟨rfl, rfl⟩ := hs
        cases rep_v_inv hx
        obtain ⟨p1, p2, p3⟩ := hp
        obtain ⟨m, rfl⟩ := Int.eq_ofNat_of_zero_le p1
        simp only [Int.toNat_natCast] at *
        have hk : xi.und = .int k := by
          cases hu : xi.und <;> simp [hu, isIntT] at hint
          rw [hint]
        refine ⟨(Builtin.zeroCells ei.zero.cells m).toList, ⟨_, hXu, .inr ⟨⟨k, hk⟩, ⟨kk, by simp⟩, by simpa [t4] using p2, by simpa using p3, by simp, by rw [t3]; exact t6⟩⟩, by simp [size_zeroCells, t6], ?_, ?_⟩
        · intro v hv
          obtain ⟨j, hj⟩ := List.getElem?_of_mem hv
          rw [zeroCells_made _ _ _ t6] at hj
          exact one_made (by omega) t7 j v (by simpa using hj)
        · have := flatRep_zero (I := I) (n := m) t6 hpos
          rw [← zeroCells_made _ _ _ t6] at this
          simpa using this
      · cases hs
    | none =>
      simp only [hint] at hs
      split at hs
      · rename_i full rs
        simp only [Option.some.injEq, Prod.mk.injEq] at hs
        obtain ⟨rfl, rfl⟩ := hs
        obtain ⟨ad, cap, rfl, _, _, hr⟩ := rows_of_sl (ρ := noLocs) h.mem.imm (hx.locs (p := fun _ => false) (by simp) rfl)
        obtain ⟨cs, q1, q2, q3, q4⟩ := source_of_rows (P := P) (w := w) (e := e) (i := i) (z := ei.zero.cells) (cap := cap) hXu hint hr (by rw [t3]; exact hrl)
        rw [t3] at q2 q4
        exact ⟨cs, q1, q2, q3, q4⟩
      · rename_i id off len
        cases ho : st.heap id with
        | none => simp [ho] at hs
        | some o =>
          simp only [ho, Option.some.injEq, Prod.mk.injEq] at hs
          obtain ⟨rfl, rfl⟩ := hs
          obtain ⟨p1, p2⟩ := hp
          obtain ⟨l, hl, hlaid⟩ := h.mem.laid id o ho
          cases hx with
          | own _ _ _ _ l' ad hl' hcap ha =>
            rw [hl] at hl'; cases hl'
            have hlen : ((o.rows.drop off).take len).length = len := by simp; omega
            have hr : (o.rows.drop off).take len ≠ [] → ∃ b o' sz, ad = some ⟨b, o', none⟩ ∧ Rows I noLocs w ((o.rows.drop off).take len) sz b o' := by
              intro hne
              have hne' : o.rows ≠ [] := by rintro e; simp [e] at hne
              obtain ⟨b, hb, hrows⟩ := rows_of_obj (laid_flat p2 hlaid) hne'
              have hlen0 : 0 < len := by rcases Nat.eq_zero_or_pos len with e | e; · subst e; simp at hne
                                         · exact e
              rcases ha with ha | ⟨b', hb', rfl⟩
              · omega
              · rw [hb] at hb'; cases hb'
                refine ⟨b, _, o.sz, rfl, ?_⟩
                have := hrows.sub off len
                rwa [hlaid.sz]
            obtain ⟨cs, q1, q2, q3, q4⟩ := source_of_rows (P := P) (w := w) (e := e) (i := i) (z := ei.zero.cells) (cap := l.cap - off) hXu hint hr (by rw [t3]; exact hrl)
            rw [t3] at q2 q4
            rw [hlen] at q1
            refine ⟨cs, by rw [hlen]; exact q1, q2, q3, q4⟩
      · rename_i s
        simp only [Option.some.injEq, Prod.mk.injEq] at hs
        obtain ⟨rfl, rfl⟩ := hs
        cases rep_v_inv hx
        have hni : ∀ k, xi.und ≠ .int k := by intro k hk; rw [hk] at hint; cases hint
        have hls : (byteRows s).length = s.size := by simp [byteRows]
        refine ⟨s.data.toList.map fun b => .int .u8 b.toNat, ⟨_, hXu, .inl ⟨hni, fun w' => by simp [Builtin.lenOf, hls], fun w' m hw hm => ?_⟩⟩, by rw [hp, hls]; simp, ?_, ?_⟩
        · have hm' : m ≤ s.size := by omega
          simp only [Builtin.firstCells, Sem.run_pure]
          congr 1
          rw [t3, hp, Nat.mul_one]
          apply Array.ext'
          simp [ByteArray.data_extract, Array.toList_extract, List.extract]
        · intro v hv
          simp only [List.mem_map] at hv
          obtain ⟨b, _, rfl⟩ := hv
          rfl
        · intro i j row d x h1 h2 h3
          simp only [byteRows, List.getElem?_map] at h1
          cases hb : s.data.toList[i]? with
          | none => simp [hb] at h1
          | some b =>
            simp only [hb, Option.map_some, Option.some.injEq] at h1
            subst h1
            cases j with
            | succ j => simp at h2
            | zero =>
              simp only [List.getElem?_cons_zero, Option.some.injEq] at h2
              subst h2
              rw [hp] at h3
              simp only [Nat.mul_one, Nat.add_zero, List.getElem?_toArray, List.getElem?_map, hb, Option.map_some, Option.some.injEq] at h3
              subst h3
              exact .v _ _
      · cases hs

/-! ### the machine's append -/

def storeAfter (base : Option Addr) (k : Nat) (cs : List Value) : Sem Unit := match base with
  | some ad => storeCells (ad.add k) cs
  | none => pure ()

theorem run_append_room2 {t X ty e : TypeId} {i : TypeInfo} {z : Value} {base : Option Addr} {sLen sCap n : Nat} {x : Value} {cs : List Value} {w' : World} (ht : P.underlying t = some (.slice e)) (hi : P.info? e = some i) (hz : i.zero = some z)
    (hs : Source P w X e i z.cells x n cs) (hpos : 0 < i.size) (hl : cs.length = n * i.size) (hroom : sLen + n ≤ sCap) (hst : (storeAfter base (sLen * i.size) cs).run P w = .ok () w') :
    (Builtin.append_ #[t, X] ty #[.slice base sLen sCap, x]).run P w = .ok (.slice base (sLen + n) sCap) w' := by
  obtain ⟨d, hX, hA | ⟨⟨k, rfl⟩, ⟨kk, rfl⟩, hb1, hb2, hcs, hzs⟩⟩ := hs.und
  · obtain ⟨hni, hlen, hfc⟩ := hA
    have hm : (match (generalizing := false) d with | .int _ => true | _ => false) = false := by
      cases d <;> first | rfl | (exact absurd rfl (hni _))
    have hfc' := hfc w n rfl (Nat.le_refl _)
    rw [List.take_of_length_le (by omega)] at hfc'
    cases base with
    | none =>
      simp only [storeAfter, Sem.run_pure, Result.ok.injEq, true_and] at hst
      subst hst
      simp [Builtin.append_, run_underlying ht, run_underlying hX, sizeOf, typeInfo, hi, hm, hlen, hroom, hfc']
    | some ad =>
      simp only [storeAfter] at hst
      simp [Builtin.append_, run_underlying ht, run_underlying hX, sizeOf, typeInfo, hi, hm, hlen, hroom, hfc', hst]
  · have wl : IntKind.i64.wrap (n : Int) = n := by rw [IntKind.wrap_i64]; omega
    have n1 : ¬ ((n : Int) < 0) := by omega
    have n2 : ¬ (281474976710656 < (n : Int) * (i.bytes : Int)) := by
      have : ((n * i.bytes : Nat) : Int) ≤ 140737488355328 := Int.ofNat_le.2 hb1
      rw [Int.natCast_mul] at this
      omega
    by_cases hz0 : n * i.size = 0
    · have hn0 : n = 0 := by
        rcases Nat.mul_eq_zero.1 hz0 with q | q
        · exact q
        · omega
      subst hn0
      have hcs0 : cs = [] := by cases cs with
        | nil => rfl
        | cons c r => simp at hl
      subst hcs0
      have hst0 : w' = w := by
        cases base <;> simp [storeAfter, storeCells] at hst <;> exact hst.symm
      subst hst0
      have w0 : IntKind.i64.wrap 0 = 0 := by decide
      have hroom' : sLen ≤ sCap := by omega
      cases base <;> simp [Builtin.append_, run_underlying ht, run_underlying hX, sizeOf, typeInfo, hi, asInt, asIntOf, w0, hroom', storeCells]
    · cases base with
      | none =>
        simp only [storeAfter, Sem.run_pure, Result.ok.injEq, true_and] at hst
        subst hst
        simp [Builtin.append_, run_underlying ht, run_underlying hX, sizeOf, typeInfo, hi, asInt, asIntOf, wl, n1, n2, hroom, hz0, zeroValue, hz]
      | some ad =>
        simp only [storeAfter] at hst
        have hcs' : (Builtin.zeroCells z.cells n).toList = cs := by rw [← hcs]
        simp [Builtin.append_, run_underlying ht, run_underlying hX, sizeOf, typeInfo, hi, asInt, asIntOf, wl, n1, n2, hroom, hz0, zeroValue, hz, hcs', hst]

theorem run_append_grow2 {t X ty e : TypeId} {i : TypeInfo} {z : Value} {base : Option Addr} {sLen sCap n : Nat} {x : Value} {cs olds : List Value} (ht : P.underlying t = some (.slice e)) (hi : P.info? e = some i) (hz : i.zero = some z)
    (hs : Source P w X e i z.cells x n cs) (hpos : 0 < i.size) (hl : cs.length = n * i.size) (hroom : ¬ sLen + n ≤ sCap) (hold : ∀ w', w'.heap = w.heap → (Builtin.firstCells i.size sLen (.slice base sLen sCap)).run P w' = .ok olds.toArray w')
    (h63 : sLen + n ≤ 9223372036854775807) (hbytes : (sLen + n) * i.bytes ≤ 140737488355328) :
    (Builtin.append_ #[t, X] ty #[.slice base sLen sCap, x]).run P w = .ok (.slice (some ⟨w.heap.size, 0, none⟩) (sLen + n) (grownCap w (sLen + n) sCap e))
      (w.drew.alloc (.cells (olds.toArray ++ cs.toArray ++ Builtin.zeroCells z.cells (grownCap w (sLen + n) sCap e - (sLen + n))) e)) := by
  have h48 := growslice_fits (need := sLen + n) (old := sCap) (bytes := i.bytes) (by omega) hbytes
  have n3 : ¬ (281474976710656 < Builtin.nextslicecap (sLen + n) sCap * i.bytes) := by omega
  have n4 : ¬ (9223372036854775807 < ((sLen : Int) + (n : Int))) := by omega
  have hold' := hold w.drew rfl
  obtain ⟨d, hX, hA | ⟨⟨k, rfl⟩, ⟨kk, rfl⟩, hb1, hb2, hcs, hzs⟩⟩ := hs.und
  · obtain ⟨hni, hlen, hfc⟩ := hA
    have hm : (match (generalizing := false) d with | .int _ => true | _ => false) = false := by
      cases d <;> first | rfl | (exact absurd rfl (hni _))
    have hfc' := hfc w.drew n rfl (Nat.le_refl _)
    rw [List.take_of_length_le (by omega)] at hfc'
    simp [Builtin.append_, run_underlying ht, run_underlying hX, sizeOf, typeInfo, hi, hm, hlen, hroom, hfc', n3, n4, Question.forced, hold', zeroValue, hz, newRow, grownCap]
    simp only [← List.append_toArray, Array.append_assoc]
  · have wl : IntKind.i64.wrap (n : Int) = n := by rw [IntKind.wrap_i64]; omega
    have n1 : ¬ ((n : Int) < 0) := by omega
    have n2 : ¬ (281474976710656 < (n : Int) * (i.bytes : Int)) := by
      have : ((n * i.bytes : Nat) : Int) ≤ 140737488355328 := Int.ofNat_le.2 hb1
      rw [Int.natCast_mul] at this
      omega
    by_cases hz0 : n * i.size = 0
    · have hn0 : n = 0 := by
        rcases Nat.mul_eq_zero.1 hz0 with q | q
        · exact q
        · omega
      subst hn0
      have hcs0 : cs = [] := by cases cs with
        | nil => rfl
        | cons c r => simp at hl
      subst hcs0
      have w0 : IntKind.i64.wrap 0 = 0 := by decide
      have hroom' : ¬ sLen ≤ sCap := by omega
      simp only [Nat.add_zero, Int.natCast_zero, Int.add_zero] at n3 n4 ⊢
      simp [Builtin.append_, run_underlying ht, run_underlying hX, sizeOf, typeInfo, hi, asInt, asIntOf, w0, hroom', n3, n4, Question.forced, hold', zeroValue, hz, newRow, grownCap]
    · simp [Builtin.append_, run_underlying ht, run_underlying hX, sizeOf, typeInfo, hi, asInt, asIntOf, wl, n1, n2, hroom, hz0, n3, n4, Question.forced, hold', zeroValue, hz, newRow, grownCap, hcs]

end
end Go.Ab
