/-
  ABSTRACT DATA FOR WALKS, 9: operations that make and write memory.
-/
import Derived.Test.YtfllndodnhmhkaaAb8
namespace Go.Ab
set_option linter.unusedSimpArgs false
set_option linter.unusedVariables false

def atoms (cs : List D) : Prop := ∀ c ∈ cs, c.atom = true
theorem atoms_nil : atoms [] = True := by simp [atoms]
theorem atoms_cons (c : D) (cs : List D) : atoms (c :: cs) = (c.atom = true ∧ atoms cs) := by simp [atoms]
theorem atom_v (x : Value) : (D.v x).atom = x.oneCell' := rfl
theorem atom_sl (f : Bool) (r : List (List D)) : (D.sl f r).atom = true := rfl
theorem atom_ref (r : List D) (k : Nat) : (D.ref r k).atom = true := rfl
theorem atom_own (a b c : Nat) : (D.own a b c).atom = true := rfl
theorem atom_ptr (a b c : Nat) : (D.ptr a b c).atom = true := rfl
theorem atom_fn (f : Fn) (n : Nat) (c : List D) : (D.fn f n c).atom = true := rfl
theorem good_agg (cs : List D) : (D.agg cs).good = true := rfl
theorem good_v (x : Value) : (D.v x).good = x.oneCell' := rfl
theorem good_sl (f : Bool) (r : List (List D)) : (D.sl f r).good = true := rfl
theorem good_ref (r : List D) (k : Nat) : (D.ref r k).good = true := rfl
theorem good_own (a b c : Nat) : (D.own a b c).good = true := rfl
theorem good_ptr (a b c : Nat) : (D.ptr a b c).good = true := rfl
theorem good_fn (f : Fn) (n : Nat) (c : List D) : (D.fn f n c).good = true := rfl
theorem fillRows_cons (sz : Nat) (rows : List (List D)) (i : Nat) (d : D) (rest : List (Nat × D)) : fillRows sz rows ((i, d) :: rest) =
    ((d.good = true ∧ d.cells.length = sz ∧ i < rows.length ∧ atoms d.cells) ∧ (fillRows sz (rows.set i d.cells) rest).1, (fillRows sz (rows.set i d.cells) rest).2) := rfl
theorem fillRows_nil (sz : Nat) (rows : List (List D)) : fillRows sz rows [] = (True, rows) := rfl

def hopAlloc (tt : TypeId → Option TI) (id : Nat) (st : St) (T : TypeId) : Option (Prop × St × D) :=
  match tt T with
  | some ti => some (0 < ti.sz, st.bind id { sz := ti.sz, rows := [zrow ti], flat := false }, .ptr id 0 0)
  | none => none

def hopBox (tt : TypeId → Option TI) (id : Nat) (st : St) (T : TypeId) (d : D) : Option (Prop × St × D) :=
  match tt T with
  | some ti => some (0 < ti.sz ∧ d.good = true ∧ d.cells.length = ti.sz ∧ atoms d.cells, st.bind id { sz := ti.sz, rows := [d.cells], flat := false }, .ptr id 0 0)
  | none => none

def hopBuildSlice (tt : TypeId → Option TI) (id : Nat) (st : St) (T : TypeId) (len : Nat) (idx : List Nat) (ds : List D) : Option (Prop × St × D) :=
  match (tt T).map TI.und with
  | some (.slice e) => match tt e, purL (pur st.heap 4) ds with
    | some ei, some (ids, p, ds') => some (0 < ei.sz ∧ len * ei.sz ≤ 16777216 ∧ p ∧ idx.length = ds'.length ∧ (fillRows ei.sz (List.replicate len (zrow ei)) (idx.zip ds')).1,
        (st.freeze ids).bind id { sz := ei.sz, rows := (fillRows ei.sz (List.replicate len (zrow ei)) (idx.zip ds')).2 }, .own id 0 len)
    | _, _ => none
  | _ => none

def hopMakeSlice (tt : TypeId → Option TI) (id : Nat) (st : St) (T : TypeId) : D → D → Option (Prop × St × D)
  | .v (.int _ l), .v (.int _ c) => match (tt T).map TI.und with
    | some (.slice e) => match tt e with
      | some ei => some (0 < ei.sz ∧ 0 ≤ l ∧ l ≤ c ∧ (ei.bytes : Int) * c ≤ 281474976710656 ∧ c ≤ 9223372036854775807, st.bind id { sz := ei.sz, rows := List.replicate l.toNat (zrow ei) }, .own id 0 l.toNat)
      | none => none
    | _ => none
  | _, _ => none

def hopAppend (tt : TypeId → Option TI) (id : Nat) (st : St) (T X : TypeId) (s x : D) : Option (Prop × St × D) :=
  match (tt T).map TI.und with
  | some (.slice e) => match tt e with
    | some ei => match srcD tt st X ei x with
      | some (p2, rows2) => match s with
        | .sl true rows1 => some (p2 ∧ (∀ row ∈ rows2, row.length = ei.sz) ∧ 0 < ei.sz ∧ (∀ row ∈ rows1, row.length = ei.sz) ∧ (rows1 = [] ∨ rows2 ≠ []) ∧ (rows1.length + rows2.length) * ei.bytes ≤ 140737488355328 ∧ rows1.length + rows2.length ≤ 9223372036854775807,
            st.bind id { sz := ei.sz, rows := rows1 ++ rows2 }, .own id 0 (rows1.length + rows2.length))
        | .own oid off len => match st.heap oid with
          | some o => some (p2 ∧ (∀ row ∈ rows2, row.length = ei.sz) ∧ 0 < ei.sz ∧ o.wr = true ∧ o.sz = ei.sz ∧ off + len ≤ o.rows.length ∧ (len + rows2.length) * ei.bytes ≤ 140737488355328 ∧ len + rows2.length ≤ 9223372036854775807,
              st.bind oid { o with rows := (o.rows.drop off).take len ++ rows2, pin := false }, .own oid 0 (len + rows2.length))
          | none => none
        | _ => none
      | none => none
    | none => none
  | _ => none

def hopCopy (tt : TypeId → Option TI) (st : St) (T X : TypeId) (s x : D) : Option (Prop × St × D) :=
  match (tt T).map TI.und with
  | some (.slice e) => match tt e, (tt X).map fun i => isIntT i.und with
    | some ei, some none => match srcD tt st X ei x with
      | some (p2, rows2) => match s with
        | .own oid off len => match st.heap oid with
          | some o => some (p2 ∧ (∀ row ∈ rows2, row.length = ei.sz) ∧ 0 < ei.sz ∧ o.wr = true ∧ o.sz = ei.sz ∧ off + len ≤ o.rows.length,
              { st with heap := upd st.heap oid { o with rows := o.rows.take off ++ (rows2.take (min rows2.length len) ++ o.rows.drop (off + min rows2.length len)) } }, .v (.int .i64 ((min rows2.length len : Nat) : Int)))
          | none => none
        | _ => none
      | none => none
    | _, _ => none
  | _ => none

def hopStore (tt : TypeId → Option TI) (st : St) (T : TypeId) (ad x : D) : Option (Prop × St × D) :=
  match tt T, ad with
  | some ti, .ptr oid i k => match st.heap oid with
    | some o0 => match (if o0.flat = true then pur st.heap 4 x else some ([], True, x)) with
      | some (ids, p, d) => match (st.freeze ids).heap oid with
        | some o => some (p ∧ o.wr = true ∧ i < o.rows.length ∧ k + ti.sz ≤ o.sz ∧ d.good = true ∧ d.cells.length = ti.sz ∧ atoms d.cells,
            { st.freeze ids with heap := upd (st.freeze ids).heap oid { o with rows := o.rows.set i ((o.rows.getD i []).take k ++ (d.cells ++ (o.rows.getD i []).drop (k + ti.sz))) } }, .junk)
        | none => none
      | none => none
    | none => none
  | _, _ => none

def hopBytes (tt : TypeId → Option TI) (id : Nat) (st : St) (src dst : TypeId) : D → Option (Prop × St × D)
  | .v (.string s) => match (tt src).map TI.und, (tt dst).map TI.und with
    | some .string, some (.slice e) => match tt e with
      | some ei => match ei.und with
        | .int .u8 => some (ei.sz = 1 ∧ s.size ≤ 9223372036854775807, st.bind id { sz := 1, rows := byteRows s }, .own id 0 s.size)
        | _ => none
      | none => none
    | _, _ => none
  | _ => none

/-- Bytes of one's own as the same bytes: a mark behind them. -/
def hopConv (tt : TypeId → Option TI) (id : Nat) (st : St) (src dst : TypeId) : D → Option (Prop × St × D)
  | .own oid off len => match (tt src).map TI.und, st.heap oid with
    | some (.slice e), some o => match tt e with
      | some ei => match ei.und with
        | .int .u8 => some (src = dst ∧ o.wr = true ∧ 0 < len, st, .own oid off len)
        | _ => none
      | none => none
    | _, _ => none
  | d => hopBytes tt id st src dst d

/-- The slice that is nil for sure, held against nil. -/
def hopNil (tt : TypeId → Option TI) (st : St) (op : BinOp) (T : TypeId) : Option D → Operand → Option (Prop × St × D)
  | some (.v (.slice none 0 0)), .const (.slice none 0 0) => match (tt T).map TI.und with
    | some (.slice _) => match op with
      | .eql => some (True, st, .v (.bool true))
      | .neq => some (True, st, .v (.bool false))
      | _ => none
    | _ => none
  | _, _ => none

def hop (tt : TypeId → Option TI) (id : Nat) (st : St) : Op → Option (Prop × St × D)
  | .binOp op T x y _ => hopNil tt st op T (st.ev x) y
  | .alloc T => hopAlloc tt id st T
  | .box T x => match st.ev x with
    | some d => hopBox tt id st T d
    | none => none
  | .buildSlice T len parts => match st.evL (parts.toList.map (·.2)) with
    | some ds => hopBuildSlice tt id st T len (parts.toList.map (·.1)) ds
    | none => none
  | .makeSlice T l c => match st.ev l, st.ev c with
    | some dl, some dc => hopMakeSlice tt id st T dl dc
    | _, _ => none
  | .store T ad x => match st.ev ad, st.ev x with
    | some da, some dx => hopStore tt st T da dx
    | _, _ => none
  | .convert src dst x => match st.ev x with
    | some d => hopConv tt id st src dst d
    | none => none
  | .call c => match c.callee, c.args.toList, c.argTypes.toList with
    | .builtin .append, [s, x], [T, X] => match st.ev s, st.ev x with
      | some ds, some dx => hopAppend tt id st T X ds dx
      | _, _ => none
    | .builtin .copy, [s, x], [T, X] => match st.ev s, st.ev x with
      | some ds, some dx => hopCopy tt st T X ds dx
      | _, _ => none
    | _, _, _ => none
  | _ => none

section
variable {P : Program} {E : Ent} {st : St} {a : Act} {w : World} {ρ : Locs} {I : Imm} {tt : TypeId → Option TI}

/-- What an operation that writes comes to. -/
def Did (E : Ent) (st1 : St) (a : Act) (d : D) (v : Value) (w' : World) : Prop := ∃ ρ' J, RB E st1 a w' ρ' J ∧ Rep J ρ' d v

theorem info_of (ht : TTok P tt) {T : TypeId} {ti : TI} (h : tt T = some ti) : ∃ info, P.info? T = some info ∧ info.size = ti.sz ∧ info.bytes = ti.bytes ∧ info.zero = some ti.zero ∧ ti.zero.cells.size = ti.sz ∧ (ti.zero.cells.all (·.oneCell')) = true := by
  obtain ⟨info, t1, t2, t3, t4, t5, t6, t7, -⟩ := ht T ti h
  exact ⟨info, t1, t3, t4, t5, t6, t7⟩

theorem fr00 {n : Nat} : Unfr n 0 0 := .inl rfl

theorem slice_und {e T : TypeId} (ht : TTok P tt) (h : (tt T).map TI.und = some (.slice e)) : P.underlying T = some (.slice e) := by
  cases hT : tt T with
  | none => simp [hT] at h
  | some ti =>
    simp only [hT, Option.map_some, Option.some.injEq] at h
    have := und_of ht hT
    rwa [h] at this

theorem did_box (h : RB E st a w ρ I) {id : Nat} {d : D} {v : Value} {T : TypeId} {sz : Nat} (hd : Rep I ρ d v) (h0 : 0 < sz) (hg : d.good = true) (hl : d.cells.length = sz) (ha : atoms d.cells) :
    Did E (st.bind id { sz := sz, rows := [d.cells], flat := false }) a (.ptr id 0 0) (.pointer (some ⟨w.heap.size, 0, none⟩)) (w.alloc (.cells v.cells T)) := by
  obtain ⟨c1, c2⟩ := hd.cells hg
  refine ⟨_, I, h.new id (c := v.cells) (e := T) (lo := 0) (hi := 0) (cap := 1) rfl rfl rfl rfl fr00 rfl h0 (by simpa using hl) (by simp) (by simp; omega) (fun j x hx => ?_) (fun i j row d' x q1 q2 q3 => ?_), rep_new_ptr rfl rfl⟩
  · have hj : j < d.cells.length := by have := (Array.getElem?_eq_some_iff.1 hx).1; omega
    exact (c2 j _ x (List.getElem?_eq_getElem hj) hx).one (ha _ (List.getElem_mem hj))
  · cases i with
    | succ i => simp at q1
    | zero =>
      simp at q1; subst q1
      exact c2 j d' x q2 (by simpa using q3)

theorem run_hopAlloc (ht : TTok P tt) (h : RB E st a w ρ I) {id : Nat} {T : TypeId} {p : Prop} {st1 : St} {d : D} (hv : hopAlloc tt id st T = some (p, st1, d)) (hp : p) :
    ∃ v w', (Instr.alloc T true (.tuple #[])).run P w = .ok v w' ∧ Did E st1 a d v w' := by
  unfold hopAlloc at hv
  split at hv
  · rename_i ti hti
    simp only [Option.some.injEq, Prod.mk.injEq] at hv
    obtain ⟨rfl, rfl, rfl⟩ := hv
    obtain ⟨info, i1, i2, i3, i4, i5, i6⟩ := info_of ht hti
    refine ⟨.pointer (some ⟨w.heap.size, 0, none⟩), w.alloc (.cells ti.zero.cells T), by simp [Instr.alloc, zeroValue_run ht hti, newVar, newRow], ?_⟩
    refine ⟨_, I, h.new id (c := ti.zero.cells) (e := T) (lo := 0) (hi := 0) (cap := 1) rfl rfl rfl rfl fr00 rfl hp (by simp [zrow]; exact i5) (by simp) (by simp; omega) (fun j x hx => (Array.all_eq_true_iff_forall_mem.1 i6) x (Array.mem_of_getElem? hx)) (fun i j row d' x q1 q2 q3 => ?_), rep_new_ptr rfl rfl⟩
    cases i with
    | succ i => simp at q1
    | zero =>
      simp at q1; subst q1
      exact (repCs_zero ti).2 j d' x q2 (by simpa using q3)
  · cases hv

theorem run_hopBox (ht : TTok P tt) (h : RB E st a w ρ I) {id : Nat} {T : TypeId} {p : Prop} {st1 : St} {dx d : D} {u : Value} (hv : hopBox tt id st T dx = some (p, st1, d)) (hp : p) (hu : Rep I ρ dx u) :
    ∃ v w', (Instr.box T u).run P w = .ok v w' ∧ Did E st1 a d v w' := by
  unfold hopBox at hv
  split at hv
  · rename_i ti hti
    simp only [Option.some.injEq, Prod.mk.injEq] at hv
    obtain ⟨rfl, rfl, rfl⟩ := hv
    exact ⟨.pointer (some ⟨w.heap.size, 0, none⟩), w.alloc (.cells u.cells T), by simp [Instr.box, newVar, newRow], did_box h hu hp.1 hp.2.1 hp.2.2.1 hp.2.2.2⟩
  · cases hv

theorem run_hopMakeSlice (ht : TTok P tt) (h : RB E st a w ρ I) {id : Nat} {T : TypeId} {p : Prop} {st1 : St} {dl dc d : D} {u v : Value} (hv : hopMakeSlice tt id st T dl dc = some (p, st1, d)) (hp : p) (hu : Rep I ρ dl u) (hc : Rep I ρ dc v) :
    ∃ z w', (Instr.makeSlice T u v).run P w = .ok z w' ∧ Did E st1 a d z w' := by
  unfold hopMakeSlice at hv
  split at hv
  · rename_i k l k' c
    cases rep_v_inv hu; cases rep_v_inv hc
    split at hv
    · rename_i e he
      have hund := slice_und ht he
      split at hv
      · rename_i ei hei
        simp only [Option.some.injEq, Prod.mk.injEq] at hv
        obtain ⟨rfl, rfl, rfl⟩ := hv
        obtain ⟨p0, p1, p2, p3, p4⟩ := hp
        obtain ⟨info, i1, i2, i3, i4, i5, i6⟩ := info_of ht hei
        have hr := run_make (P := P) w T e info ei.zero hund i1 i4 k k' l c p1 p2 (by rw [i3]; exact p3) p4
        refine ⟨_, _, hr, _, I, h.new id (c := madeCells ei.zero.cells (c.toNat * info.size)) (e := e) (lo := 0) (hi := 0) (cap := c.toNat) rfl rfl rfl rfl fr00 rfl p0 (fun row hr => ?_) (by simp; omega) (by rw [size_madeCells, i2]; exact Nat.le_refl _) (fun j x hx => one_made (by omega) i6 j x hx) ?_, rep_new rfl rfl (by simp; omega)⟩
        · rw [(List.mem_replicate.1 hr).2]; simp [zrow]; exact i5
        · intro i j row d' x q1 q2 q3
          rw [i2] at q3
          refine flatRep_zero (I := I) (n := c.toNat) i5 p0 i j row d' x ?_ q2 q3
          rw [List.getElem?_replicate] at q1 ⊢
          split at q1
          · rw [if_pos (by omega)]; exact q1
          · cases q1
      · cases hv
    · cases hv
  · cases hv

theorem run_hopBuildSlice (ht : TTok P tt) (h : RB E st a w ρ I) {id : Nat} {T : TypeId} {len : Nat} {parts : Array (Nat × Operand)} {ds : List D} {p : Prop} {st1 : St} {d : D}
    (hv : hopBuildSlice tt id st T len (parts.toList.map (·.1)) ds = some (p, st1, d)) (hp : p) (hu : RepL I ρ ds ((parts.toList.map (·.2)).map a.eval)) :
    ∃ z w', (Instr.buildSlice T len (parts.map fun (i, x) => (i, a.eval x))).run P w = .ok z w' ∧ Did E st1 a d z w' := by
  unfold hopBuildSlice at hv
  split at hv
  · rename_i e he
    have hund := slice_und ht he
    split at hv
    · rename_i ei ids q ds' hei hpur
      simp only [Option.some.injEq, Prod.mk.injEq] at hv
      obtain ⟨rfl, rfl, rfl⟩ := hv
      obtain ⟨p0, p1, p2, p3, p4⟩ := hp
      obtain ⟨info, i1, i2, i3, i4, i5, i6⟩ := info_of ht hei
      obtain ⟨J, hJ, h', hds⟩ := h.purL hpur p2 hu
      have hpl : (parts.map fun x : Nat × Operand => (x.1, a.eval x.2)).toList = parts.toList.map fun x => (x.1, a.eval x.2) := by simp
      have e1 : (((parts.toList.map (·.1)).zip ds').map (·.1)) = (parts.toList.map fun x => (x.1, a.eval x.2)).map (·.1) := by rw [zip_map_fst _ _ p3]; simp
      have e2 : RepL J noLocs (((parts.toList.map (·.1)).zip ds').map (·.2)) ((parts.toList.map fun x => (x.1, a.eval x.2)).map (·.2)) := by
        rw [zip_map_snd _ _ p3]
        have : (parts.toList.map fun x => (x.1, a.eval x.2)).map (·.2) = (parts.toList.map (·.2)).map a.eval := by simp
        rw [this]; exact hds
      have hin : RowsIn J noLocs ei.sz (List.replicate len (zrow ei)) (madeCells ei.zero.cells (len * ei.sz)) :=
        ⟨fun row hr => by rw [(List.mem_replicate.1 hr).2]; simp [zrow]; exact i5, by simp [size_madeCells], fun j x hx => one_made (by omega) i6 j x hx, flatRep_zero i5 p0⟩
      obtain ⟨c', f1, f2, f3⟩ := fillRows_ok _ _ _ _ p4 e1 e2 hin
      rw [List.length_replicate] at f3
      have hrun : (Instr.buildSlice T len (parts.map fun (i, x) => (i, a.eval x))).run P w = .ok (.slice (some ⟨w.heap.size, 0, none⟩) len len) (w.alloc (.cells c' e)) := by
        have n1 : ¬ (16777216 < len * ei.sz) := by omega
        have hmade : (Array.range (len * ei.sz)).map (fun x => (if len * ei.sz = 0 then #[] else ei.zero.cells)[x % (if len * ei.sz = 0 then #[] else ei.zero.cells).size]!) = madeCells ei.zero.cells (len * ei.sz) := by
          by_cases hz : len * ei.sz = 0
          · rw [hz]; simp [madeCells]
          · simp only [hz, if_false, madeCells]
        by_cases hz : len * ei.sz = 0
        · simp only [hz, if_true] at hmade f1
          simp only [Instr.buildSlice, Sem.run_bind, run_underlying hund, Result.andThen_ok, run_sizeOf ht hei, Sem.run_ite, hpl]
          have hm0 : ∀ g : Nat → Value, Array.map g (Array.range 0) = #[] := fun g => Array.size_eq_zero_iff.1 (by simp)
          rw [show (madeCells ei.zero.cells 0) = #[] from Array.size_eq_zero_iff.1 (size_madeCells _ _)] at f1
          simp [hz, hm0, f1, newRow]
        · simp only [hz, if_false] at hmade
          simp only [Instr.buildSlice, Sem.run_bind, run_underlying hund, Result.andThen_ok, run_sizeOf ht hei, Sem.run_ite, hpl]
          simp [hz, n1, zeroValue_run ht hei, hmade, f1, newRow]
      refine ⟨_, _, hrun, _, J, h'.new id (c := c') (e := e) (lo := 0) (hi := 0) (cap := len) rfl rfl rfl rfl fr00 rfl p0 f2.len (Nat.le_of_eq f3) (by rw [f2.size, f3]; exact Nat.le_refl _) f2.one f2.rep, rep_new rfl rfl (Nat.le_refl _)⟩
    · cases hv
  · cases hv

theorem flatRep_append {ρ' : Locs} {sz : Nat} {r1 r2 : List (List D)} {c : Array Value} {cs2 : List Value} {k : Nat} (h1 : FlatRep I ρ' sz r1 c) (h2 : FlatRep I ρ' sz r2 cs2.toArray)
    (hl2 : ∀ row ∈ r2, row.length = sz) (hlen : cs2.length = r2.length * sz) (c' : Array Value) (hlo : ∀ j, j < r1.length * sz → c'[j]? = c[j]?) (hhi : ∀ j, j < cs2.length → c'[r1.length * sz + j]? = cs2[j]?) (hl1 : ∀ row ∈ r1, row.length = sz) : FlatRep I ρ' sz (r1 ++ r2) c' := by
  intro i j row d x q1 q2 q3
  have hj := (List.getElem?_eq_some_iff.1 q2).1
  by_cases hi : i < r1.length
  · rw [List.getElem?_append_left hi] at q1
    rw [hl1 row (List.mem_of_getElem? q1)] at hj
    rw [hlo _ (mul_lt_of hi hj)] at q3
    exact h1 i j row d x q1 q2 q3
  · rw [List.getElem?_append_right (by omega)] at q1
    rw [hl2 row (List.mem_of_getElem? q1)] at hj
    have hi2 : i - r1.length < r2.length := (List.getElem?_eq_some_iff.1 q1).1
    have hlt := mul_lt_of hi2 hj
    have e : i * sz + j = r1.length * sz + ((i - r1.length) * sz + j) := by
      have : i * sz = r1.length * sz + (i - r1.length) * sz := by rw [← Nat.add_mul]; congr 1; omega
      omega
    rw [e, hhi _ (by omega)] at q3
    exact h2 (i - r1.length) j row d x q1 q2 (by simpa using q3)

/-- The cells of a new array behind an append that grew. -/
theorem grown_get {olds cs : List Value} {z : Array Value} {m : Nat} (j : Nat) : j < olds.length + cs.length → (olds.toArray ++ cs.toArray ++ Builtin.zeroCells z m)[j]? = (olds ++ cs)[j]? := by
  intro hj
  rw [Array.getElem?_append_left (by simp; omega)]
  simp

theorem grown_one {olds cs : List Value} {z : Array Value} {m : Nat} (h1 : ∀ v ∈ olds, v.oneCell' = true) (h2 : ∀ v ∈ cs, v.oneCell' = true) (hz0 : 0 < z.size) (hz : (z.all (·.oneCell')) = true) (j : Nat) (x : Value)
    (hx : (olds.toArray ++ cs.toArray ++ Builtin.zeroCells z m)[j]? = some x) : x.oneCell' = true := by
  rw [Array.getElem?_append] at hx
  split at hx
  · have : x ∈ olds ++ cs := by
      have := List.mem_of_getElem? (l := olds ++ cs) (i := j) (a := x) (by simpa using hx)
      exact this
    rcases List.mem_append.1 this with q | q
    · exact h1 x q
    · exact h2 x q
  · rw [zeroCells_made z m z.size rfl] at hx
    exact one_made hz0 hz _ x hx

theorem run_hopAppend (ht : TTok P tt) (h : RB E st a w ρ I) {id : Nat} {T X ty : TypeId} {p : Prop} {st1 : St} {ds dx d : D} {u v : Value} (hv : hopAppend tt id st T X ds dx = some (p, st1, d)) (hp : p) (hu : Rep I ρ ds u) (hx : Rep I ρ dx v) :
    ∃ z w', (Builtin.append_ #[T, X] ty #[u, v]).run P w = .ok z w' ∧ Did E st1 a d z w' := by
  unfold hopAppend at hv
  split at hv
  · rename_i e he
    have hund := slice_und ht he
    split at hv
    · rename_i ei hei
      obtain ⟨info, i1, i2, i3, i4, i5, i6⟩ := info_of ht hei
      split at hv
      · rename_i p2 rows2 hsrc
        split at hv
        · rename_i rows1
          simp only [Option.some.injEq, Prod.mk.injEq] at hv
          obtain ⟨rfl, rfl, rfl⟩ := hv
          obtain ⟨g1, g2, g3, g4, g5, g6, g7⟩ := hp
          obtain ⟨cs, s1, s2, s3, s4⟩ := h.source ht hei i1 hsrc g1 g2 g3 hx
          obtain ⟨ad, cap, rfl, _, hcap, hr⟩ := rows_of_sl (ρ := noLocs) h.mem.imm (hu.locs (p := fun _ => false) (by simp) rfl)
          have hcap := hcap rfl
          subst hcap
          by_cases hroom : rows1.length + rows2.length ≤ rows1.length
          · have h20 : rows2 = [] := by cases rows2 with
              | nil => rfl
              | cons _ _ => exfalso; simp only [List.length_cons] at hroom; omega
            subst h20
            have h10 : rows1 = [] := by rcases g5 with q | q; · exact q
                                        · exact absurd rfl q
            subst h10
            have hcs : cs = [] := by cases cs with
              | nil => rfl
              | cons _ _ => simp at s2
            subst hcs
            have hst : (storeAfter ad (0 * info.size) []).run P w = .ok () w := by cases ad <;> simp [storeAfter, storeCells]
            have hrun := run_append_room2 (ty := ty) (sLen := 0) (sCap := 0) hund i1 i4 s1 (by omega) (by simp) (by simp) hst
            refine ⟨_, _, hrun, updL ρ id ⟨none, 0, 0, ei.sz⟩, I, ?_, ?_⟩
            · refine h.rebind (bn := w.heap.size) ⟨rfl, rfl, rfl, Nat.le_refl _, fun _ _ _ => rfl, .inl (Nat.le_refl _)⟩ (.inr rfl) ⟨rfl, g3, by simp, by simp, .inl ⟨rfl, rfl⟩⟩
            · have := Rep.own (I := I) (updL ρ id ⟨none, 0, 0, ei.sz⟩) id 0 0 ⟨none, 0, 0, ei.sz⟩ ad updL_eq (by simp) (.inl rfl)
              simpa using this
          · have hold : ∃ olds : List Value, olds.length = rows1.length * ei.sz ∧ (∀ v ∈ olds, v.oneCell' = true) ∧ FlatRep I noLocs ei.sz rows1 olds.toArray ∧ ∀ w', w'.heap = w.heap → (Builtin.firstCells info.size rows1.length (.slice ad rows1.length rows1.length)).run P w' = .ok olds.toArray w' := by
              by_cases hne : rows1 = []
              · subst hne
                exact ⟨[], by simp, by simp, fun i j row d x q => by simp at q, fun w' _ => by simpa using firstCells_zero⟩
              · obtain ⟨b, o, sz, rfl, hrs⟩ := hr hne
                have hsz : sz = ei.sz := by
                  cases rows1 with
                  | nil => exact absurd rfl hne
                  | cons r rs => rw [← hrs.len r (by simp), g4 r (by simp)]
                subst hsz
                obtain ⟨os, o1, o2, o3, o4⟩ := hrs.source (P := P)
                refine ⟨os, o1, o2, o3, fun w' hw => ?_⟩
                have := o4 w' rows1.length rows1.length rows1.length hw (Nat.le_refl _)
                rw [List.take_of_length_le (by omega)] at this
                rw [i2]; exact this
            obtain ⟨olds, o1, o2, o3, o4⟩ := hold
            have hrun := run_append_grow2 (ty := ty) (base := ad) hund i1 i4 s1 (by omega) (by rw [i2]; exact s2) hroom o4 g7 (by rw [i3]; exact g6)
            have hge := grownCap_ge w (rows1.length + rows2.length) rows1.length e
            refine ⟨_, _, hrun, _, I, h.drew.new id (e := e) (lo := 0) (hi := 0) (cap := grownCap w (rows1.length + rows2.length) rows1.length e) rfl rfl rfl rfl fr00 rfl g3 ?_ (by simp; exact hge) ?_ (grown_one o2 s3 (by omega) i6) ?_, rep_new rfl rfl (by simpa using hge)⟩
            · intro row hr'
              rcases List.mem_append.1 hr' with q | q
              · exact g4 row q
              · exact g2 row q
            · simp only [Array.size_append, List.size_toArray, size_zeroCells, o1, s2, i5]
              rw [← Nat.add_mul, ← Nat.add_mul]
              exact Nat.mul_le_mul_right _ (by omega)
            · refine flatRep_append (k := 0) o3 s4 g2 s2 _ (fun j hj => ?_) (fun j hj => ?_) g4
              · rw [grown_get j (by omega), List.getElem?_append_left (by omega)]; simp
              · rw [grown_get _ (by omega), List.getElem?_append_right (by omega), o1]; congr 1; omega
        · rename_i oid off len
          cases ho : st.heap oid with
          | none => simp [ho] at hv
          | some o =>
            simp only [ho, Option.some.injEq, Prod.mk.injEq] at hv
            obtain ⟨rfl, rfl, rfl⟩ := hv
            obtain ⟨g1, g2, g3, g4, g5, g6, g7, g8⟩ := hp
            obtain ⟨cs, s1, s2, s3, s4⟩ := h.source ht hei i1 hsrc g1 g2 g3 hx
            obtain ⟨l, hl, hlaid⟩ := h.mem.laid oid o ho
            have hlen : ((o.rows.drop off).take len).length = len := by simp; omega
            have hrl : ∀ row ∈ (o.rows.drop off).take len ++ rows2, row.length = o.sz := by
              intro row hr
              rcases List.mem_append.1 hr with q | q
              · exact hlaid.rows row (List.mem_of_mem_drop (List.mem_of_mem_take q))
              · rw [g2 row q, g5]
            have s4' : FlatRep I (if o.flat then noLocs else ρ) o.sz rows2 cs.toArray := by
              rw [g5]
              cases o.flat with
              | true => exact s4
              | false => exact fun i j row d x q1 q2 q3 => noLocs_kill (s4 i j row d x q1 q2 q3)
            cases hu with
            | own _ _ _ _ l' ad hl' hcap ha =>
              rw [hl] at hl'; cases hl'
              by_cases hroom : len + rows2.length ≤ l.cap - off
              · -- where it lies
                by_cases hc0 : l.cap = off
                · have hz : len = 0 ∧ rows2 = [] := by
                    constructor
                    · omega
                    · cases rows2 with
                      | nil => rfl
                      | cons _ _ => exfalso; simp only [List.length_cons] at hroom; omega
                  obtain ⟨rfl, rfl⟩ := hz
                  have hcs : cs = [] := by cases cs with
                    | nil => rfl
                    | cons _ _ => simp at s2
                  subst hcs
                  have hst : (storeAfter ad (0 * info.size) []).run P w = .ok () w := by cases ad <;> simp [storeAfter, storeCells]
                  have hrun := run_append_room2 (ty := ty) (sLen := 0) (sCap := l.cap - off) hund i1 i4 s1 (by omega) (by simp) (by simp) hst
                  refine ⟨_, _, hrun, updL ρ oid ⟨none, 0, 0, o.sz⟩, I, ?_, ?_⟩
                  · refine h.rebind (bn := w.heap.size) ⟨rfl, rfl, rfl, Nat.le_refl _, fun _ _ _ => rfl, .inl (Nat.le_refl _)⟩ (.inr rfl) ⟨rfl, hlaid.pos, by simp, by simp, .inl ⟨rfl, rfl⟩⟩
                  · have e0 : l.cap - off = 0 := by omega
                    have := Rep.own (I := I) (updL ρ oid ⟨none, 0, 0, o.sz⟩) oid 0 0 ⟨none, 0, 0, o.sz⟩ ad updL_eq (by simp) (.inl rfl)
                    simpa [e0] using this
                · rcases ha with ha | ⟨b, hb, rfl⟩
                  · exact absurd ha hc0
                  · rcases hlaid.mem with ⟨q0, _⟩ | ⟨b', c, el, lo, hi, q1, q2, q3, q4, q5, q6, hone, q7⟩
                    · rw [q0] at hb; cases hb
                    · have hbb : b' = b := by rw [q1] at hb; exact Option.some.inj hb
                      subst hbb
                      have hsz := hlaid.sz
                      have hb1 : (off + (len + rows2.length)) * o.sz ≤ l.cap * o.sz := Nat.mul_le_mul_right _ (by omega)
                      have hb2 : (off + (len + rows2.length)) * o.sz = off * o.sz + (len * o.sz + rows2.length * o.sz) := by rw [Nat.add_mul, Nat.add_mul]
                      rw [← g5] at s2
                      have hfit : l.off + off * o.sz + len * o.sz + cs.length ≤ c.size := by rw [s2]; omega
                      have hst : (storeAfter (some ⟨b', l.off + off * l.sz, none⟩) (len * info.size) cs).run P w = .ok () (w.setRow b' (over c (l.off + off * o.sz + len * o.sz) cs)) := by
                        simp only [storeAfter, Addr.add_lit]
                        have e1 : info.size = o.sz := by rw [i2, g5]
                        rw [e1, hsz]
                        exact run_store_over q2 q3.no hfit s3
                      have hrun := run_append_room2 (ty := ty) (sLen := len) (sCap := l.cap - off) hund i1 i4 s1 (by omega) (by rw [i2, ← g5]; exact s2) hroom hst
                      refine ⟨_, _, hrun, updL ρ oid ⟨some b', l.off + off * o.sz, l.cap - off, o.sz⟩, I, ?_, ?_⟩
                      · refine h.rebind (rebind_setRow (c := c) (t := el) (fr := (lo, hi)) ho g4 hl q1) (.inl rfl) ⟨rfl, hlaid.pos, hrl, by simp only [List.length_append, hlen]; exact hroom, .inr ⟨b', over c (l.off + off * o.sz + len * o.sz) cs, el, lo, hi, rfl, setRow_heap w b' c _ el (lo, hi) q2, by rw [over_size hfit]; exact q3, ?_, by simp [g4], fun _ => q6 g4, over_one hfit hone s3, ?_⟩⟩
                        · rw [over_size hfit]
                          have : (off + (l.cap - off)) * o.sz = l.cap * o.sz := by congr 1; omega
                          rw [Nat.add_mul] at this
                          show l.off + off * o.sz + (l.cap - off) * o.sz ≤ c.size
                          omega
                        · intro i j row d x r1 r2 r3
                          have hj := (List.getElem?_eq_some_iff.1 r2).1
                          rw [hrl row (List.mem_of_getElem? r1)] at hj
                          have r3' : (over c (l.off + off * o.sz + len * o.sz) cs)[l.off + off * o.sz + i * o.sz + j]? = some x := r3
                          rw [over_get hfit] at r3'
                          by_cases hi' : i < len
                          · have hlt := mul_lt_of hi' hj
                            rw [if_neg (by omega)] at r3'
                            have r1' : ((o.rows.drop off).take len ++ rows2)[i]? = some row := r1
                            rw [List.getElem?_append_left (by omega), List.getElem?_take, if_pos hi', List.getElem?_drop] at r1'
                            refine q7 (off + i) j row d x r1' r2 ?_
                            rw [Nat.add_mul, ← Nat.add_assoc]; exact r3'
                          · have r1' : ((o.rows.drop off).take len ++ rows2)[i]? = some row := r1
                            rw [List.getElem?_append_right (by omega), hlen] at r1'
                            have hi2 : i - len < rows2.length := (List.getElem?_eq_some_iff.1 r1').1
                            have hlt := mul_lt_of hi2 hj
                            have e1 : i * o.sz = len * o.sz + (i - len) * o.sz := by rw [← Nat.add_mul]; congr 1; omega
                            rw [if_pos (by omega)] at r3'
                            refine s4' (i - len) j row d x r1' r2 ?_
                            have e2 : l.off + off * o.sz + i * o.sz + j - (l.off + off * o.sz + len * o.sz) = (i - len) * o.sz + j := by omega
                            rw [e2] at r3'
                            simpa using r3'
                      · have := Rep.own (I := I) (updL ρ oid ⟨some b', l.off + off * o.sz, l.cap - off, o.sz⟩) oid 0 (len + rows2.length) ⟨some b', l.off + off * o.sz, l.cap - off, o.sz⟩ (some ⟨b', l.off + off * l.sz, none⟩) updL_eq (by simpa using hroom) (.inr ⟨b', rfl, by simp [hsz]⟩)
                        simpa using this
              · -- a new array
                have hold : ∃ olds : List Value, olds.length = len * o.sz ∧ (∀ v ∈ olds, v.oneCell' = true) ∧ FlatRep I (if o.flat then noLocs else ρ) o.sz ((o.rows.drop off).take len) olds.toArray ∧ ∀ w', w'.heap = w.heap → (Builtin.firstCells info.size len (.slice ad len (l.cap - off))).run P w' = .ok olds.toArray w' := by
                  by_cases h0 : len = 0
                  · subst h0
                    exact ⟨[], by simp, by simp, fun i j row d x q => by simp at q, fun w' _ => by simpa using firstCells_zero⟩
                  · have hne : o.rows ≠ [] := by rintro q; simp [q] at g6; omega
                    have hlaid' : LaidObj I (if o.flat then noLocs else ρ) w o l := by
                      cases hf : o.flat with
                      | true => exact laid_flat hf hlaid
                      | false => exact hlaid
                    obtain ⟨b, hb, hrs⟩ := rows_of_obj hlaid' hne
                    rcases ha with ha | ⟨b', hb', rfl⟩
                    · omega
                    · rw [hb] at hb'; cases hb'
                      obtain ⟨os, o1, o2, o3, o4⟩ := (hrs.sub off len).source (P := P)
                      rw [hlen] at o1 o4
                      refine ⟨os, o1, o2, o3, fun w' hw => ?_⟩
                      have := o4 w' len len (l.cap - off) hw (Nat.le_refl _)
                      rw [List.take_of_length_le (by omega)] at this
                      rw [i2, ← g5, hlaid.sz]; exact this
                obtain ⟨olds, o1, o2, o3, o4⟩ := hold
                rw [← g5] at s2
                have hrun := run_append_grow2 (ty := ty) (base := ad) hund i1 i4 s1 (by omega) (by rw [i2, ← g5]; exact s2) hroom o4 g8 (by rw [i3]; exact g7)
                have hge := grownCap_ge w (len + rows2.length) (l.cap - off) e
                refine ⟨_, _, hrun, _, I, h.drew.new oid (e := e) (lo := 0) (hi := 0) (cap := grownCap w (len + rows2.length) (l.cap - off) e) rfl rfl rfl rfl fr00 g4 hlaid.pos hrl (by simp only [List.length_append, hlen]; exact hge) ?_ (grown_one o2 s3 (by omega) i6) ?_, rep_new rfl rfl (by simpa using hge)⟩
                · simp only [Array.size_append, List.size_toArray, size_zeroCells, o1, s2, i5, ← g5]
                  rw [← Nat.add_mul, ← Nat.add_mul]
                  exact Nat.mul_le_mul_right _ (by omega)
                · refine flatRep_append (k := 0) o3 s4' (fun row hr => by rw [g2 row hr, g5]) s2 _ (fun j hj => ?_) (fun j hj => ?_) (fun row hr => hrl row (List.mem_append_left _ hr))
                  · rw [hlen] at hj
                    rw [grown_get j (by omega), List.getElem?_append_left (by omega)]; simp
                  · rw [hlen, grown_get _ (by omega), List.getElem?_append_right (by omega), o1]; congr 1; omega
        · cases hv
      · cases hv
    · cases hv
  · cases hv

end
end Go.Ab
