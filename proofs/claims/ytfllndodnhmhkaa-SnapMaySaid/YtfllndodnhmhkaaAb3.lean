/-
  ABSTRACT DATA FOR WALKS, 3: operations that only look: their abstract result, and that it stands for the machine's.
-/
import Derived.Test.YtfllndodnhmhkaaAb2
namespace Go.Ab
set_option linter.unusedSimpArgs false
set_option linter.unusedVariables false

structure TI where
  und : TypeDesc
  sz : Nat
  bytes : Nat
  zero : Value
  eqk : Bool

def isIntD : Option TypeDesc → Bool
  | some (.int _) => true
  | _ => false
/-- Fields of numbers alone, one behind the other. -/
def eqFs (P : Program) : Nat → List Field → Bool
  | _, [] => true
  | n, f :: fs => f.name != "_" && f.offset == n && isIntD (P.underlying f.type) && eqFs P (n + 1) fs
def descFs : TypeDesc → List Field
  | .struct fs => fs.toList
  | _ => []
def isStructD : TypeDesc → Bool
  | .struct _ => true
  | _ => false
/-- Structs of numbers alone, held against one another number by number. -/
def eqOkB (P : Program) (T : TypeId) (u : TypeDesc) (sz : Nat) : Bool :=
  isStructD u && !P.stoodInHeld T && !P.eqGuardType P.depth T && (descFs u).length == sz && eqFs P 0 (descFs u)

/-- A table of types that is the program's. -/
def TTok (P : Program) (tt : TypeId → Option TI) : Prop :=
  ∀ T i, tt T = some i → ∃ info, P.info? T = some info ∧ P.underlying T = some i.und ∧ info.size = i.sz ∧ info.bytes = i.bytes ∧ info.zero = some i.zero ∧ i.zero.cells.size = i.sz ∧ (i.zero.cells.all (·.oneCell')) = true ∧ (i.eqk = true → eqOkB P T i.und i.sz = true)

def isAggT : TypeDesc → Bool
  | .struct _ | .array _ _ => true
  | _ => false

def ofAtom : Value → D
  | .slice none 0 0 => .sl true []
  | x => .v x
def ofV : Value → D
  | .agg cs => .agg (cs.toList.map ofAtom)
  | x => ofAtom x

theorem rep_ofAtom (I : Imm) (ρ : Locs) (x : Value) : Rep I ρ (ofAtom x) x := by
  unfold ofAtom
  split
  · exact .nil _ _ _ _ (by simp)
  · exact .v _ _

theorem rep_ofV (I : Imm) (ρ : Locs) (x : Value) : Rep I ρ (ofV x) x := by
  unfold ofV
  split
  · rename_i cs
    refine .agg _ _ _ (by simp) fun i d x h1 h2 => ?_
    simp only [List.getElem?_map, Array.getElem?_toList] at h1
    rw [h2] at h1
    simp only [Option.map_some, Option.some.injEq] at h1
    exact h1 ▸ rep_ofAtom I ρ x
  · exact rep_ofAtom I ρ _

def St.ev (st : St) : Operand → Option D
  | .tmp t => st.slots t
  | .const x => some (ofV x)
  | .func f => some (.v (.func (.func f) #[] #[]))
  | .global _ => none

section
variable {P : Program} {E : Ent} {st : St} {a : Act} {w : World} {ρ : Locs} {I : Imm}

theorem RB.ev (h : RB E st a w ρ I) {x : Operand} {d : D} (hd : st.ev x = some d) : Rep I ρ d (a.eval x) := by
  cases x with
  | tmp t => exact (h.slots t d hd).2
  | const x => simp only [St.ev, Option.some.injEq] at hd; subst hd; exact rep_ofV I ρ x
  | func f => simp only [St.ev, Option.some.injEq] at hd; subst hd; exact .v _ _
  | global g => simp [St.ev] at hd

/-- From address a on the cells stand for the row. -/
def RowAt (I : Imm) (ρ : Locs) (w : World) (row : List D) (b o : Nat) : Prop :=
  ∀ j d, row[j]? = some d → ∃ y, w.cell? ⟨b, o + j, none⟩ = some y ∧ y.oneCell' = true ∧ Rep I ρ d y

theorem RowAt.drop {row : List D} {b o : Nat} (h : RowAt I ρ w row b o) (k : Nat) : RowAt I ρ w (row.drop k) b (o + k) := by
  intro j d hd
  rw [List.getElem?_drop] at hd
  have := h (k + j) d hd
  rwa [← Nat.add_assoc] at this
theorem RowAt.take {row : List D} {b o : Nat} (h : RowAt I ρ w row b o) (k : Nat) : RowAt I ρ w (row.take k) b o := by
  intro j d hd
  rw [List.getElem?_take] at hd
  split at hd
  · exact h j d hd
  · cases hd

theorem cell_of_block {b k : Nat} {c : Array Value} {e : TypeId} {fr : Nat × Nat} (h : w.heap[b]? = some (.cells c e fr)) : w.cell? ⟨b, k, none⟩ = c[k]? := by
  simp [World.cell?, h]

theorem ImmOk.cell (h : ImmOk I w) {b k : Nat} {c : Array Value} (hb : I b = some c) : w.cell? ⟨b, k, none⟩ = c[k]? := by
  obtain ⟨e, fr, q⟩ := h b c hb
  exact cell_of_block q

/-- Slices and pointers as rows of memory: what is read of them. -/
structure Rows (I : Imm) (ρ : Locs) (w : World) (rows : List (List D)) (sz b o : Nat) : Prop where
  len : ∀ row ∈ rows, row.length = sz
  at_ : ∀ i row, rows[i]? = some row → RowAt I ρ w row b (o + i * sz)

theorem getD_rows {rows : List (List D)} {i : Nat} (h : i < rows.length) : rows[i]? = some (rows.getD i []) := by
  simp [List.getD, List.getElem?_eq_getElem h]

theorem mul_lt_of {i j n sz : Nat} (hi : i < n) (hj : j < sz) : i * sz + j < n * sz := by
  calc i * sz + j < i * sz + sz := by omega
    _ = (i + 1) * sz := by rw [Nat.add_mul, Nat.one_mul]
    _ ≤ n * sz := Nat.mul_le_mul_right _ hi

theorem rows_of_sl (hI : ImmOk I w) {full : Bool} {rows : List (List D)} {x : Value} (h : Rep I ρ (.sl full rows) x) :
    ∃ a cap, x = .slice a rows.length cap ∧ rows.length ≤ cap ∧ (full = true → cap = rows.length) ∧ (rows ≠ [] → ∃ b o sz, a = some ⟨b, o, none⟩ ∧ Rows I ρ w rows sz b o) := by
  cases h with
  | nil _ _ a cap hf => exact ⟨a, cap, rfl, by simp, by simpa using hf, by simp⟩
  | sl _ _ _ b o cap sz c hI' hsz hc hcap hf h1 hh =>
    refine ⟨_, cap, rfl, hcap, hf, fun _ => ⟨b, o, sz, rfl, hsz, fun i row hr j d hd => ?_⟩⟩
    have hi : i < rows.length := (List.getElem?_eq_some_iff.1 hr).1
    have hrl := hsz row (List.mem_of_getElem? hr)
    have hj : j < sz := by have := (List.getElem?_eq_some_iff.1 hd).1; omega
    have hlt := mul_lt_of hi hj
    have hcell : c[o + i * sz + j]? = some c[o + i * sz + j] := Array.getElem?_eq_getElem (by omega)
    refine ⟨c[o + i * sz + j]'(by omega), by rw [hI.cell hI']; exact hcell, h1 (i * sz + j) _ hlt (by rw [← Nat.add_assoc]; exact hcell), noLocs_kill (hh i j row d _ hr hd hcell)⟩

/-- An object's rows. -/
theorem rows_of_obj {o : AObj} {l : Loc} (hl : LaidObj I ρ w o l) (hne : o.rows ≠ []) : ∃ b, l.blk = some b ∧ Rows I ρ w o.rows o.sz b l.off := by
  rcases hl.mem with ⟨_, h0⟩ | ⟨b, c, e, lo, hi, q1, q2, q3, q4, q5, q6, hone, q7⟩
  · have := hl.cap
    cases hr : o.rows with
    | nil => exact absurd hr hne
    | cons r rs => simp [hr] at this; omega
  · refine ⟨b, q1, hl.rows, fun i row hr j d hd => ?_⟩
    have hi' : i < o.rows.length := (List.getElem?_eq_some_iff.1 hr).1
    have hrl := hl.rows row (List.mem_of_getElem? hr)
    have hj : j < o.sz := by have := (List.getElem?_eq_some_iff.1 hd).1; omega
    have h8 := mul_lt_of hi' hj
    have hlt : i * o.sz + j < l.cap * o.sz := Nat.lt_of_lt_of_le h8 (Nat.mul_le_mul_right _ hl.cap)
    have hcell : c[l.off + i * o.sz + j]? = some (c[l.off + i * o.sz + j]'(by omega)) := Array.getElem?_eq_getElem (by omega)
    refine ⟨_, by rw [cell_of_block q2]; exact hcell, hone _ _ hcell, ?_⟩
    have := q7 i j row d _ hr hd hcell
    cases hf : o.flat with
    | true => simp only [hf, if_true] at this; exact noLocs_kill this
    | false => simpa [hf] using this

theorem Rows.sub {rows : List (List D)} {sz b o : Nat} (h : Rows I ρ w rows sz b o) (k n : Nat) : Rows I ρ w ((rows.drop k).take n) sz b (o + k * sz) := by
  refine ⟨fun row hr => h.len row (List.mem_of_mem_drop (List.mem_of_mem_take hr)), fun i row hr => ?_⟩
  rw [List.getElem?_take] at hr
  split at hr
  · rw [List.getElem?_drop] at hr
    have := h.at_ _ _ hr
    rwa [Nat.add_mul, ← Nat.add_assoc] at this
  · cases hr

/-- What a slice reads as, whichever it is. -/
def St.rowsOf (st : St) : D → Option (Prop × List (List D))
  | .sl _ rows => some (True, rows)
  | .own id off len => match st.heap id with
    | some o => some (off + len ≤ o.rows.length, (o.rows.drop off).take len)
    | none => none
  | _ => none

theorem RB.rowsOf (h : RB E st a w ρ I) {d : D} {p : Prop} {rows : List (List D)} (hd : st.rowsOf d = some (p, rows)) (hp : p) {x : Value} (hx : Rep I ρ d x) :
    ∃ ad cap, x = .slice ad rows.length cap ∧ rows.length ≤ cap ∧ (rows ≠ [] → ∃ b o sz, ad = some ⟨b, o, none⟩ ∧ Rows I ρ w rows sz b o) := by
  cases d with
  | sl full rs =>
    simp only [St.rowsOf, Option.some.injEq, Prod.mk.injEq] at hd
    obtain ⟨_, rfl⟩ := hd
    obtain ⟨ad, cap, rfl, h1, _, h2⟩ := rows_of_sl h.mem.imm hx
    exact ⟨ad, cap, rfl, h1, h2⟩
  | own id off len =>
    simp only [St.rowsOf] at hd
    cases ho : st.heap id with
    | none => simp [ho] at hd
    | some o =>
      simp only [ho, Option.some.injEq, Prod.mk.injEq] at hd
      obtain ⟨rfl, rfl⟩ := hd
      obtain ⟨l, hl, hlaid⟩ := h.mem.laid id o ho
      cases hx with
      | own _ _ _ _ l' ad hl' hcap ha =>
        rw [hl] at hl'; cases hl'
        have hlen : ((o.rows.drop off).take len).length = len := by simp; omega
        refine ⟨ad, _, by rw [hlen], by omega, fun hne => ?_⟩
        have hne' : o.rows ≠ [] := by rintro e; simp [e] at hne
        obtain ⟨b, hb, hrows⟩ := rows_of_obj hlaid hne'
        have hlen0 : 0 < len := by rcases Nat.eq_zero_or_pos len with e | e; · subst e; simp at hne
                                   · exact e
        rcases ha with ha | ⟨b', hb', rfl⟩
        · omega
        · rw [hb] at hb'; cases hb'
          refine ⟨b, _, o.sz, rfl, ?_⟩
          have := hrows.sub off len
          rwa [hlaid.sz]
  | _ => simp [St.rowsOf] at hd

/-- The cells of some rows, one behind the other. -/
theorem Rows.load {rows : List (List D)} {sz b o : Nat} (h : Rows I ρ w rows sz b o) : ∃ cs : List Value, cs.length = rows.length * sz ∧
    (∀ j y, cs[j]? = some y → w.cell? ((⟨b, o, none⟩ : Addr).add j) = some y ∧ y.oneCell' = true) ∧
    ∀ (i j : Nat) (row : List D) (d : D) (x : Value), rows[i]? = some row → row[j]? = some d → cs[i * sz + j]? = some x → Rep I ρ d x := by
  refine ⟨(List.range (rows.length * sz)).map fun j => (w.cell? ⟨b, o + j, none⟩).getD undef, by simp, ?_, ?_⟩
  · intro j y hj
    rw [Addr.add_lit]
    have hlt : j < rows.length * sz := by
      have := (List.getElem?_eq_some_iff.1 hj).1
      simpa using this
    simp only [List.getElem?_map, List.getElem?_range hlt, Option.map_some, Option.some.injEq] at hj
    have hsz : 0 < sz := by rcases Nat.eq_zero_or_pos sz with e | e; · subst e; simp at hlt
                            · exact e
    have hi : j / sz < rows.length := by rw [Nat.div_lt_iff_lt_mul hsz]; exact hlt
    have hr := getD_rows hi
    have hrl := h.len _ (List.mem_of_getElem? hr)
    have hm : j % sz < (rows.getD (j / sz) []).length := by rw [hrl]; exact Nat.mod_lt _ hsz
    obtain ⟨y', q1, q2, q3⟩ := h.at_ _ _ hr (j % sz) _ (List.getElem?_eq_getElem hm)
    have e : o + j / sz * sz + j % sz = o + j := by
      have := Nat.div_add_mod' j sz; omega
    rw [e] at q1
    rw [q1] at hj
    simp at hj
    subst hj
    exact ⟨q1, q2⟩
  · intro i j row d x h1 h2 h3
    obtain ⟨y, q1, q2, q3⟩ := h.at_ i row h1 j d h2
    have hi := (List.getElem?_eq_some_iff.1 h1).1
    have hj := (List.getElem?_eq_some_iff.1 h2).1
    rw [h.len row (List.mem_of_getElem? h1)] at hj
    have hlt := mul_lt_of hi hj
    simp only [List.getElem?_map, List.getElem?_range hlt, Option.map_some, Option.some.injEq] at h3
    rw [← Nat.add_assoc, q1] at h3
    simp at h3
    exact h3 ▸ q3

/-! ### What pointers lead to -/

def St.rowOf (st : St) : D → Option (Prop × List D × Nat)
  | .ref row k => some (True, row, k)
  | .ptr id i k => match st.heap id with
    | some o => some (i < o.rows.length, o.rows.getD i [], k)
    | none => none
  | _ => none

theorem RB.rowOf (h : RB E st a w ρ I) {d : D} {p : Prop} {row : List D} {k : Nat} (hd : st.rowOf d = some (p, row, k)) (hp : p) {x : Value} (hx : Rep I ρ d x) :
    ∃ b o, x = .pointer (some ⟨b, o + k, none⟩) ∧ RowAt I ρ w row b o := by
  cases d with
  | ref row' k' =>
    simp only [St.rowOf, Option.some.injEq, Prod.mk.injEq] at hd
    obtain ⟨_, rfl, rfl⟩ := hd
    cases hx with
    | ref _ _ _ b o c hI hc h1 hh =>
      refine ⟨b, o, rfl, fun j d hd => ?_⟩
      have hj := (List.getElem?_eq_some_iff.1 hd).1
      have hcell : c[o + j]? = some (c[o + j]'(by omega)) := Array.getElem?_eq_getElem (by omega)
      exact ⟨_, by rw [h.mem.imm.cell hI]; exact hcell, h1 j _ hj hcell, noLocs_kill (hh j d _ hd hcell)⟩
  | ptr id i k' =>
    simp only [St.rowOf] at hd
    cases ho : st.heap id with
    | none => simp [ho] at hd
    | some o =>
      simp only [ho, Option.some.injEq, Prod.mk.injEq] at hd
      obtain ⟨rfl, rfl, rfl⟩ := hd
      obtain ⟨l, hl, hlaid⟩ := h.mem.laid id o ho
      cases hx with
      | ptr _ _ _ _ b l' hl' hb =>
        rw [hl] at hl'; cases hl'
        obtain ⟨b', hb', hrows⟩ := rows_of_obj hlaid (by rintro e; simp [e] at hp)
        rw [hb] at hb'; cases hb'
        refine ⟨b, _, rfl, ?_⟩
        rw [hlaid.sz]
        exact hrows.at_ i _ (getD_rows hp)
  | _ => simp [St.rowOf] at hd

/-- Cells as they are loaded. -/
theorem RowAt.load {row : List D} {b o : Nat} (h : RowAt I ρ w row b o) : ∃ cs : List Value, cs.length = row.length ∧ (loadCells ⟨b, o, none⟩ row.length).run P w = .ok cs.toArray w ∧
    ∀ (i : Nat) (d : D) (x : Value), row[i]? = some d → cs[i]? = some x → Rep I ρ d x := by
  have h' : Rows I ρ w [row] row.length b o := ⟨by simp, fun i r hr => by
    cases i with
    | zero => simp at hr; subst hr; simpa using h
    | succ i => simp at hr⟩
  obtain ⟨cs, h1, h2, h3⟩ := h'.load
  simp at h1
  refine ⟨cs, h1, ?_, fun i d x hd hx => h3 0 i row d x (by simp) hd (by simpa using hx)⟩
  have := run_loadCells_list (P := P) w ⟨b, o, none⟩ cs (fun j v hv => (h2 j v hv).1)
  rwa [h1] at this

end
end Go.Ab
