/-
  ABSTRACT DATA FOR WALKS, 6: memory made and written: new objects, frozen data, rows of cells.
-/
import Derived.Test.YtfllndodnhmhkaaAb5
namespace Go.Ab
set_option linter.unusedSimpArgs false
set_option linter.unusedVariables false

/-! ### data without ids, at the price of what is written no more -/

abbrev PurR (α : Type) := Option (List Nat × Prop × α)

def purL (rec : D → PurR D) : List D → PurR (List D)
  | [] => some ([], True, [])
  | d :: ds => match rec d, purL rec ds with
    | some (i1, p1, d'), some (i2, p2, ds') => some (i1 ++ i2, p1 ∧ p2, d' :: ds')
    | _, _ => none
def purLL (rec : D → PurR D) : List (List D) → PurR (List (List D))
  | [] => some ([], True, [])
  | d :: ds => match purL rec d, purLL rec ds with
    | some (i1, p1, d'), some (i2, p2, ds') => some (i1 ++ i2, p1 ∧ p2, d' :: ds')
    | _, _ => none

def purB (h : Nat → Option AObj) (rec : D → PurR D) : D → PurR D
  | .own id off len => match h id with
    | some o => if o.flat = true then some ([id], off + len ≤ o.rows.length, .sl false ((o.rows.drop off).take len))
      else match purLL rec o.rows with
        | some (ids, p, rows) => some (id :: ids, p ∧ off + len ≤ rows.length, .sl false ((rows.drop off).take len))
        | none => none
    | none => none
  | .ptr id i k => match h id with
    | some o => if o.flat = true then some ([id], i < o.rows.length, .ref (o.rows.getD i []) k)
      else match purLL rec o.rows with
        | some (ids, p, rows) => some (id :: ids, p ∧ i < rows.length, .ref (rows.getD i []) k)
        | none => none
    | none => none
  | .agg cs => match purL rec cs with
    | some (ids, p, cs') => some (ids, p, .agg cs')
    | none => none
  | .tup cs => match purL rec cs with
    | some (ids, p, cs') => some (ids, p, .tup cs')
    | none => none
  | .fn f nf cs => match purL rec cs with
    | some (ids, p, cs') => some (ids, p, .fn f nf cs')
    | none => none
  | d => some ([], True, d)

def pur (h : Nat → Option AObj) : Nat → D → PurR D
  | 0 => purB h fun _ => none
  | n + 1 => purB h (pur h n)

section
variable {P : Program} {E : Ent} {st : St} {a : Act} {w : World} {ρ : Locs} {I : Imm} {tt : TypeId → Option TI}

/-- The heap h with the objects ids written no more. -/
def FrozenBy (h h1 : Nat → Option AObj) (ids : List Nat) : Prop := ∀ id ∈ ids, ∀ o, h id = some o → h1 id = some { o with wr := false }

def PurOk (h h1 : Nat → Option AObj) (I : Imm) (ρ : Locs) (w : World) (rec : D → PurR D) : Prop :=
  ∀ d ids p d' x, rec d = some (ids, p, d') → p → FrozenBy h h1 ids → Rep I ρ d x → Rep I noLocs d' x

theorem purL_ok {h h1 : Nat → Option AObj} {rec : D → PurR D} (hr : PurOk h h1 I ρ w rec) : ∀ {cs : List D} {ids : List Nat} {p : Prop} {cs' : List D}, purL rec cs = some (ids, p, cs') → p → FrozenBy h h1 ids →
    cs'.length = cs.length ∧ ∀ (i : Nat) (d' : D) (x : Value), cs'[i]? = some d' → (∀ d, cs[i]? = some d → Rep I ρ d x) → Rep I noLocs d' x
  | [], ids, p, cs', he, hp, hf => by
    simp only [purL, Option.some.injEq, Prod.mk.injEq] at he
    obtain ⟨_, _, rfl⟩ := he
    exact ⟨rfl, fun i d' x h => by simp at h⟩
  | c :: cs, ids, p, cs', he, hp, hf => by
    simp only [purL] at he
    split at he
    · rename_i i1 p1 d1 i2 p2 ds2 e1 e2
      simp only [Option.some.injEq, Prod.mk.injEq] at he
      obtain ⟨rfl, rfl, rfl⟩ := he
      obtain ⟨q1, q2⟩ := purL_ok hr e2 hp.2 (fun id hi => hf id (by simp [hi]))
      refine ⟨by simp [q1], fun i d' x h1 h2 => ?_⟩
      cases i with
      | zero =>
        simp at h1; subst h1
        exact hr _ _ _ _ _ e1 hp.1 (fun id hi => hf id (by simp [hi])) (h2 c (by simp))
      | succ i => exact q2 i d' x (by simpa using h1) (fun d hd => h2 d (by simpa using hd))
    · cases he

theorem purLL_ok {h h1 : Nat → Option AObj} {rec : D → PurR D} (hr : PurOk h h1 I ρ w rec) : ∀ {cs : List (List D)} {ids : List Nat} {p : Prop} {cs' : List (List D)}, purLL rec cs = some (ids, p, cs') → p → FrozenBy h h1 ids →
    cs'.length = cs.length ∧ (∀ (i : Nat) (row' : List D), cs'[i]? = some row' → ∃ row : List D, cs[i]? = some row ∧ row'.length = row.length) ∧
    ∀ (i j : Nat) (row' : List D) (d' : D) (x : Value), cs'[i]? = some row' → row'[j]? = some d' → (∀ row d, cs[i]? = some row → row[j]? = some d → Rep I ρ d x) → Rep I noLocs d' x
  | [], ids, p, cs', he, hp, hf => by
    simp only [purLL, Option.some.injEq, Prod.mk.injEq] at he
    obtain ⟨_, _, rfl⟩ := he
    exact ⟨rfl, fun i d' h => by simp at h, fun i j row d' x h => by simp at h⟩
  | c :: cs, ids, p, cs', he, hp, hf => by
    simp only [purLL] at he
    split at he
    · rename_i i1 p1 d1 i2 p2 ds2 e1 e2
      simp only [Option.some.injEq, Prod.mk.injEq] at he
      obtain ⟨rfl, rfl, rfl⟩ := he
      obtain ⟨q1, q3, q2⟩ := purLL_ok hr e2 hp.2 (fun id hi => hf id (by simp [hi]))
      obtain ⟨r1, r2⟩ := purL_ok hr e1 hp.1 (fun id hi => hf id (by simp [hi]))
      refine ⟨by simp [q1], fun i row' h1 => ?_, fun i j row' d' x h1 h3 h2 => ?_⟩
      · cases i with
        | zero => simp at h1; subst h1; exact ⟨c, by simp, r1⟩
        | succ i => simpa using q3 i row' (by simpa using h1)
      · cases i with
        | zero =>
          simp at h1; subst h1
          exact r2 j d' x h3 (fun d hd => h2 c d (by simp) hd)
        | succ i => exact q2 i j row' d' x (by simpa using h1) h3 (fun row d hd => h2 row d (by simpa using hd))
    · cases he

/-- Rows of a frozen object as a slice. -/
theorem rep_sl_of_obj {o : AObj} {l : Loc} {id off len : Nat} {rows : List (List D)} {x : Value} (hl : ρ id = some l) (hlaid : LaidObj I ρ w { o with wr := false } l) (hx : Rep I ρ (.own id off len) x)
    (hlen : rows.length = o.rows.length) (hrow : ∀ row ∈ rows, row.length = o.sz) (hle : off + len ≤ rows.length)
    (hc : ∀ (i j : Nat) (row : List D) (d : D) (x : Value), rows[i]? = some row → row[j]? = some d → (∀ row0 d0, o.rows[i]? = some row0 → row0[j]? = some d0 → Rep I (if o.flat then noLocs else ρ) d0 x) → Rep I noLocs d x) :
    Rep I noLocs (.sl false ((rows.drop off).take len)) x := by
  cases hx with
  | own _ _ _ _ l' ad hl' hcap ha =>
    rw [hl] at hl'; cases hl'
    have hlen2 : ((rows.drop off).take len).length = len := by simp; omega
    by_cases h0 : len = 0
    · subst h0
      simp only [List.take_zero]
      exact .nil _ _ _ _ (by simp)
    · rcases ha with ha | ⟨b, hb, rfl⟩
      · omega
      · rcases hlaid.mem with ⟨h1, _⟩ | ⟨b', c, e, lo, hi, q1, q2, q3, q4, q5, q6, hone, q7⟩
        · rw [h1] at hb; cases hb
        · have hbb : b' = b := by rw [q1] at hb; exact Option.some.inj hb
          subst hbb
          have hsz : l.sz = o.sz := hlaid.sz
          have hle2 : (off + len) * o.sz ≤ l.cap * o.sz := Nat.mul_le_mul_right _ hcap
          rw [Nat.add_mul] at hle2
          have q4' : l.off + l.cap * o.sz ≤ c.size := q4
          rw [hsz]
          have := Rep.sl (I := I) noLocs false ((rows.drop off).take len) b' (l.off + off * o.sz) (l.cap - off) o.sz c (q5 rfl) (fun row hr => hrow row (List.mem_of_mem_drop (List.mem_of_mem_take hr)))
            (by rw [hlen2]; omega) (by rw [hlen2]; omega) (by simp) (fun j x _ hx => hone _ _ hx) (fun i j row d x hr hd hx => by
              rw [List.getElem?_take] at hr
              split at hr
              · rw [List.getElem?_drop] at hr
                refine hc (off + i) j row d x hr hd fun row0 d0 h0 h1 => q7 (off + i) j row0 d0 x h0 h1 ?_
                rw [Nat.add_mul, ← Nat.add_assoc]; exact hx
              · cases hr)
          rw [hlen2] at this
          exact this

theorem rep_ref_of_obj {o : AObj} {l : Loc} {id i k : Nat} {rows : List (List D)} {x : Value} (hl : ρ id = some l) (hlaid : LaidObj I ρ w { o with wr := false } l) (hx : Rep I ρ (.ptr id i k) x)
    (hlen : rows.length = o.rows.length) (hrow : ∀ row ∈ rows, row.length = o.sz) (hi : i < rows.length)
    (hc : ∀ (i j : Nat) (row : List D) (d : D) (x : Value), rows[i]? = some row → row[j]? = some d → (∀ row0 d0, o.rows[i]? = some row0 → row0[j]? = some d0 → Rep I (if o.flat then noLocs else ρ) d0 x) → Rep I noLocs d x) :
    Rep I noLocs (.ref (rows.getD i []) k) x := by
  cases hx with
  | ptr _ _ _ _ b l' hl' hb =>
    rw [hl] at hl'; cases hl'
    rcases hlaid.mem with ⟨h1, _⟩ | ⟨b', c, e, lo, hi', q1, q2, q3, q4, q5, q6, hone, q7⟩
    · rw [h1] at hb; cases hb
    · have hbb : b' = b := by rw [q1] at hb; exact Option.some.inj hb
      subst hbb
      have hsz : l.sz = o.sz := hlaid.sz
      have hr := getD_rows hi
      have hrl := hrow _ (List.mem_of_getElem? hr)
      have hcap : o.rows.length ≤ l.cap := hlaid.cap
      have hle2 : (i + 1) * o.sz ≤ l.cap * o.sz := Nat.mul_le_mul_right _ (by omega)
      rw [Nat.add_mul, Nat.one_mul] at hle2
      have q4' : l.off + l.cap * o.sz ≤ c.size := q4
      rw [hsz]
      exact .ref _ _ _ b' (l.off + i * o.sz) c (q5 rfl) (by omega) (fun j x hj hx => hone _ _ hx) fun j d x hd hx => hc i j _ d x hr hd fun row0 d0 h0 h1 => q7 i j row0 d0 x h0 h1 hx

theorem purB_ok {h h1 : Nat → Option AObj} {rec : D → PurR D} (hr : PurOk h h1 I ρ w rec) (hm : Mem I ρ h1 w) (hh : ∀ id o, h id = some o → ∀ row ∈ o.rows, row.length = o.sz) : PurOk h h1 I ρ w (purB h rec) := by
  intro d ids p d' x he hp hf hx
  have flatc : ∀ (o : AObj), o.flat = true → ∀ (i j : Nat) (row : List D) (d : D) (x : Value), o.rows[i]? = some row → row[j]? = some d → (∀ row0 d0, o.rows[i]? = some row0 → row0[j]? = some d0 → Rep I (if o.flat then noLocs else ρ) d0 x) → Rep I noLocs d x := by
    intro o ho i j row d x h1 h2 h3
    have := h3 row d h1 h2
    simpa [ho] using this
  cases d with
  | own id off len =>
    simp only [purB] at he
    cases ho : h id with
    | none => simp [ho] at he
    | some o =>
      simp only [ho] at he
      split at he
      · rename_i hflat
        simp only [Option.some.injEq, Prod.mk.injEq] at he
        obtain ⟨rfl, rfl, rfl⟩ := he
        obtain ⟨l, hl, hlaid⟩ := hm.laid id _ (hf id (by simp) o ho)
        exact rep_sl_of_obj hl hlaid hx rfl (hh _ _ ho) hp (flatc o hflat)
      · rename_i hflat
        split at he
        · rename_i ids2 p2 rows e2
          simp only [Option.some.injEq, Prod.mk.injEq] at he
          obtain ⟨rfl, rfl, rfl⟩ := he
          obtain ⟨l, hl, hlaid⟩ := hm.laid id _ (hf id (by simp) o ho)
          obtain ⟨q1, q3, q2⟩ := purLL_ok hr e2 hp.1 (fun id hi => hf id (by simp [hi]))
          refine rep_sl_of_obj hl hlaid hx q1 (fun row hrow => ?_) hp.2 (fun i j row d x g1 g2 g3 => q2 i j row d x g1 g2 fun row0 d0 k1 k2 => by simpa [hflat] using g3 row0 d0 k1 k2)
          obtain ⟨i, hi⟩ := List.getElem?_of_mem hrow
          obtain ⟨row0, r1, r2⟩ := q3 i row hi
          rw [r2]; exact hh _ _ ho _ (List.mem_of_getElem? r1)
        · cases he
  | ptr id i k =>
    simp only [purB] at he
    cases ho : h id with
    | none => simp [ho] at he
    | some o =>
      simp only [ho] at he
      split at he
      · rename_i hflat
        simp only [Option.some.injEq, Prod.mk.injEq] at he
        obtain ⟨rfl, rfl, rfl⟩ := he
        obtain ⟨l, hl, hlaid⟩ := hm.laid id _ (hf id (by simp) o ho)
        exact rep_ref_of_obj hl hlaid hx rfl (hh _ _ ho) hp (flatc o hflat)
      · rename_i hflat
        split at he
        · rename_i ids2 p2 rows e2
          simp only [Option.some.injEq, Prod.mk.injEq] at he
          obtain ⟨rfl, rfl, rfl⟩ := he
          obtain ⟨l, hl, hlaid⟩ := hm.laid id _ (hf id (by simp) o ho)
          obtain ⟨q1, q3, q2⟩ := purLL_ok hr e2 hp.1 (fun id hi => hf id (by simp [hi]))
          refine rep_ref_of_obj hl hlaid hx q1 (fun row hrow => ?_) hp.2 (fun i j row d x g1 g2 g3 => q2 i j row d x g1 g2 fun row0 d0 k1 k2 => by simpa [hflat] using g3 row0 d0 k1 k2)
          obtain ⟨i, hi⟩ := List.getElem?_of_mem hrow
          obtain ⟨row0, r1, r2⟩ := q3 i row hi
          rw [r2]; exact hh _ _ ho _ (List.mem_of_getElem? r1)
        · cases he
  | agg cs =>
    simp only [purB] at he
    split at he
    · rename_i ids2 p2 cs2 e2
      simp only [Option.some.injEq, Prod.mk.injEq] at he
      obtain ⟨rfl, rfl, rfl⟩ := he
      obtain ⟨q1, q2⟩ := purL_ok hr e2 hp hf
      cases hx with
      | agg _ _ vs hl hv =>
        refine .agg _ _ vs (by omega) fun i d x g1 g2 => q2 i d x g1 fun d0 g3 => hv i d0 x g3 g2
    · cases he
  | tup cs =>
    simp only [purB] at he
    split at he
    · rename_i ids2 p2 cs2 e2
      simp only [Option.some.injEq, Prod.mk.injEq] at he
      obtain ⟨rfl, rfl, rfl⟩ := he
      obtain ⟨q1, q2⟩ := purL_ok hr e2 hp hf
      cases hx with
      | tup _ _ vs hl hv =>
        refine .tup _ _ vs (by omega) fun i d x g1 g2 => q2 i d x g1 fun d0 g3 => hv i d0 x g3 g2
    · cases he
  | fn f nf cs =>
    simp only [purB] at he
    split at he
    · rename_i ids2 p2 cs2 e2
      simp only [Option.some.injEq, Prod.mk.injEq] at he
      obtain ⟨rfl, rfl, rfl⟩ := he
      obtain ⟨q1, q2⟩ := purL_ok hr e2 hp hf
      cases hx with
      | fn _ _ _ _ fs vs hn hl hv =>
        refine .fn _ f _ _ fs vs hn (by omega) fun i d x g1 g2 => q2 i d x g1 fun d0 g3 => hv i d0 x g3 g2
    · cases he
  | v y =>
    simp only [purB, Option.some.injEq, Prod.mk.injEq] at he
    obtain ⟨_, _, rfl⟩ := he
    cases hx; exact .v _ _
  | sl f rows =>
    simp only [purB, Option.some.injEq, Prod.mk.injEq] at he
    obtain ⟨_, _, rfl⟩ := he
    exact hx.locs (p := fun _ => false) (by simp) rfl
  | ref row k =>
    simp only [purB, Option.some.injEq, Prod.mk.injEq] at he
    obtain ⟨_, _, rfl⟩ := he
    exact hx.locs (p := fun _ => false) (by simp) rfl
  | junk =>
    simp only [purB, Option.some.injEq, Prod.mk.injEq] at he
    obtain ⟨_, _, rfl⟩ := he
    exact .junk _ _

theorem pur_ok {h h1 : Nat → Option AObj} (hm : Mem I ρ h1 w) (hh : ∀ id o, h id = some o → ∀ row ∈ o.rows, row.length = o.sz) : ∀ n, PurOk h h1 I ρ w (pur h n)
  | 0 => purB_ok (fun d ids p d' x he => by cases he) hm hh
  | n + 1 => purB_ok (pur_ok hm hh n) hm hh

theorem RB.rowsLen (h : RB E st a w ρ I) : ∀ id o, st.heap id = some o → ∀ row ∈ o.rows, row.length = o.sz := fun id o ho row hr =>
  (h.mem.laid id o ho).choose_spec.2.rows row hr

theorem frozenBy_freeze (ids : List Nat) : FrozenBy st.heap (st.freeze ids).heap ids := by
  intro id hi o ho
  simp [St.freeze, hi, ho]

/-- Data are made pure: what they name is written no more. -/
theorem RB.pur (h : RB E st a w ρ I) {n : Nat} {d d' : D} {ids : List Nat} {p : Prop} (he : pur st.heap n d = some (ids, p, d')) (hp : p) {x : Value} (hx : Rep I ρ d x) :
    ∃ J, (∀ b c, I b = some c → J b = some c) ∧ RB E (st.freeze ids) a w ρ J ∧ Rep J noLocs d' x := by
  obtain ⟨J, hJ, h'⟩ := h.freeze ids
  exact ⟨J, hJ, h', pur_ok h'.mem h.rowsLen n d ids p d' x he hp (frozenBy_freeze ids) (hx.imm hJ)⟩

theorem RB.purL (h : RB E st a w ρ I) {n : Nat} {ds ds' : List D} {ids : List Nat} {p : Prop} (he : purL (Go.Ab.pur st.heap n) ds = some (ids, p, ds')) (hp : p) {xs : List Value} (hx : RepL I ρ ds xs) :
    ∃ J, (∀ b c, I b = some c → J b = some c) ∧ RB E (st.freeze ids) a w ρ J ∧ RepL J noLocs ds' xs := by
  obtain ⟨J, hJ, h'⟩ := h.freeze ids
  refine ⟨J, hJ, h', ?_⟩
  have key : ∀ (ds : List D) (ids2 : List Nat) (p : Prop) (ds' : List D) (xs : List Value), Go.Ab.purL (Go.Ab.pur st.heap n) ds = some (ids2, p, ds') → p → FrozenBy st.heap (st.freeze ids).heap ids2 → RepL I ρ ds xs → RepL J noLocs ds' xs := by
    intro ds
    induction ds with
    | nil =>
      intro ids2 p ds' xs he _ _ hx
      simp only [Go.Ab.purL, Option.some.injEq, Prod.mk.injEq] at he
      obtain ⟨_, _, rfl⟩ := he
      cases xs with
      | nil => trivial
      | cons x xs => simp [RepL] at hx
    | cons d ds ih =>
      intro ids2 p ds' xs he hp hf hx
      simp only [Go.Ab.purL] at he
      split at he
      · rename_i i1 p1 d1 i2 p2 ds2 e1 e2
        simp only [Option.some.injEq, Prod.mk.injEq] at he
        obtain ⟨rfl, rfl, rfl⟩ := he
        cases xs with
        | nil => simp [RepL] at hx
        | cons x xs =>
          exact ⟨pur_ok h'.mem h.rowsLen n d i1 p1 d1 x e1 hp.1 (fun id hi => hf id (by simp [hi])) (hx.1.imm hJ), ih i2 p2 ds2 xs e2 hp.2 (fun id hi => hf id (by simp [hi])) hx.2⟩
      · cases he
  exact key ds ids p ds' xs he hp (frozenBy_freeze ids) hx

/-! ### new objects -/

def St.bind (st : St) (id : Nat) (o : AObj) : St := { st with slots := killS id st.slots, heap := upd (killH id st.heap) id (o.kill id) }

/-- The rows lie in the cells. -/
def FlatRep (I : Imm) (ρ : Locs) (sz : Nat) (rows : List (List D)) (c : Array Value) : Prop :=
  ∀ (i j : Nat) (row : List D) (d : D) (x : Value), rows[i]? = some row → row[j]? = some d → c[i * sz + j]? = some x → Rep I ρ d x

theorem RB.new (h : RB E st a w ρ I) (id : Nat) {o : AObj} {c : Array Value} {e : TypeId} {lo hi cap : Nat} {w' : World} (hh : w'.heap = w.heap.push (.cells c e (lo, hi))) (h1 : w'.os = w.os) (h2 : w'.tape = w.tape) (h3 : w'.output = w.output)
    (hfr : Unfr c.size lo hi) (hwr : o.wr = true) (hpos : 0 < o.sz) (hrow : ∀ row ∈ o.rows, row.length = o.sz) (hcap : o.rows.length ≤ cap) (hsz : cap * o.sz ≤ c.size) (hone : ∀ (j : Nat) (x : Value), c[j]? = some x → x.oneCell' = true)
    (hc : FlatRep I (if o.flat then noLocs else ρ) o.sz o.rows c) (hpin : o.pin = false := by rfl) :
    RB E (st.bind id o) a w' (updL ρ id ⟨some w.heap.size, 0, cap, o.sz⟩) I := by
  have hr : Rebind st w w' ρ id w.heap.size := by
    refine ⟨h1, h2, h3, by rw [hh]; simp, fun k hk hlt => ?_, .inl (Nat.le_refl _)⟩
    rw [hh, Array.getElem?_push, if_neg hk]
  have hn : I w.heap.size = none := by
    cases hI : I w.heap.size with
    | none => rfl
    | some c => have := h.mem.imm.lt hI; omega
  refine h.rebind hr (.inl rfl) ⟨rfl, hpos, hrow, hcap, .inr ⟨w.heap.size, c, e, lo, hi, rfl, by rw [hh]; simp, hfr, by simpa using hsz, by simp [hwr], fun _ => hn, hone, fun i j row d x q1 q2 q3 => hc i j row d x q1 q2 (by simpa using q3)⟩⟩ hpin

theorem rep_new {id len : Nat} {l : Loc} {b : Nat} (hb : l.blk = some b) (ho : l.off = 0) (hle : len ≤ l.cap) : Rep I (updL ρ id l) (.own id 0 len) (.slice (some ⟨b, 0, none⟩) len l.cap) := by
  have := Rep.own (I := I) (updL ρ id l) id 0 len l (some ⟨b, 0, none⟩) updL_eq (by omega) (.inr ⟨b, hb, by simp [ho]⟩)
  simpa using this
theorem rep_new_ptr {id : Nat} {l : Loc} {b : Nat} (hb : l.blk = some b) (ho : l.off = 0) : Rep I (updL ρ id l) (.ptr id 0 0) (.pointer (some ⟨b, 0, none⟩)) := by
  have := Rep.ptr (I := I) (updL ρ id l) id 0 0 b l updL_eq hb
  simpa [ho] using this

/-! ### rows of noughts, parts filled in -/

theorem flatRep_zero {z : Array Value} {n sz : Nat} (hz : z.size = sz) (hsz : 0 < sz) : FlatRep I noLocs sz (List.replicate n (z.toList.map ofAtom)) (madeCells z (n * sz)) := by
  intro i j row d x h1 h2 h3
  rw [List.getElem?_replicate] at h1
  split at h1
  · cases h1
    have hj : j < sz := by have := (List.getElem?_eq_some_iff.1 h2).1; simp at this; omega
    simp only [List.getElem?_map, Array.getElem?_toList] at h2
    have hj' : z[j]? = some z[j] := Array.getElem?_eq_getElem (by omega)
    rw [hj'] at h2
    simp only [Option.map_some, Option.some.injEq] at h2
    subst h2
    simp only [madeCells, Array.getElem?_map] at h3
    have hlt := mul_lt_of (n := n) ‹i < n› hj
    rw [Array.getElem?_range, if_pos hlt] at h3
    simp only [Option.map_some, Option.some.injEq] at h3
    have hm : (i * sz + j) % z.size = j := by rw [hz, Nat.mul_comm, Nat.mul_add_mod, Nat.mod_eq_of_lt hj]
    rw [hm] at h3
    subst h3
    rw [getElem!_pos z j (by omega)]
    exact rep_ofAtom _ _ _
  · cases h1

theorem one_made {z : Array Value} {m : Nat} (hz : 0 < z.size) (h1 : (z.all (·.oneCell')) = true) (j : Nat) (x : Value) (hx : (madeCells z m)[j]? = some x) : x.oneCell' = true := by
  simp only [madeCells, Array.getElem?_map] at hx
  cases hr : (Array.range m)[j]? with
  | none => simp [hr] at hx
  | some k =>
    simp only [hr, Option.map_some, Option.some.injEq] at hx
    subst hx
    have hk : k % z.size < z.size := Nat.mod_lt _ hz
    rw [getElem!_pos z (k % z.size) hk]
    exact (Array.all_eq_true_iff_forall_mem.1 h1) _ (Array.getElem_mem hk)

theorem foldl_set_get (vs : List Value) (off : Nat) : ∀ (n : Nat) (cells : Array Value) (k : Nat), off + n + vs.length ≤ cells.size →
    ((vs.zipIdx n).foldl (fun (cs : Array Value) (x : Value × Nat) => cs.setIfInBounds (off + x.2) x.1) cells)[k]? = if off + n ≤ k ∧ k < off + n + vs.length then vs[k - (off + n)]? else cells[k]? := by
  induction vs with
  | nil => intro n cells k _; simp; omega
  | cons v vs ih =>
    intro n cells k hk
    simp only [List.zipIdx_cons, List.foldl_cons]
    simp only [List.length_cons] at hk ⊢
    rw [ih (n + 1) _ k (by simp; omega)]
    by_cases h1 : k = off + n
    · subst h1
      have : ¬ (off + (n + 1) ≤ off + n ∧ off + n < off + (n + 1) + vs.length) := by omega
      rw [if_neg this, if_pos (by omega)]
      simp [Array.getElem?_setIfInBounds]
      omega
    · by_cases h2 : off + (n + 1) ≤ k ∧ k < off + (n + 1) + vs.length
      · rw [if_pos h2, if_pos (by omega)]
        have : k - (off + n) = (k - (off + (n + 1))) + 1 := by omega
        rw [this, List.getElem?_cons_succ]
      · rw [if_neg h2, if_neg (by omega)]
        simp [Array.getElem?_setIfInBounds]
        omega

/-- A part's cells laid into others. -/
def laidIn (cells vs : Array Value) (off : Nat) : Array Value := vs.zipIdx.foldl (fun cs x => cs.setIfInBounds (off + x.2) x.1) cells

theorem foldl_set_size (off : Nat) : ∀ (l : List (Value × Nat)) (cells : Array Value), (l.foldl (fun (cs : Array Value) (x : Value × Nat) => cs.setIfInBounds (off + x.2) x.1) cells).size = cells.size
  | [], cells => rfl
  | x :: l, cells => by simp only [List.foldl_cons]; rw [foldl_set_size off l]; simp

theorem laidIn_eq (cells vs : Array Value) (off : Nat) : laidIn cells vs off = (vs.toList.zipIdx 0).foldl (fun (cs : Array Value) (x : Value × Nat) => cs.setIfInBounds (off + x.2) x.1) cells := by
  unfold laidIn
  rw [← Array.foldl_toList]
  simp
theorem laidIn_size (cells vs : Array Value) (off : Nat) : (laidIn cells vs off).size = cells.size := by
  rw [laidIn_eq, foldl_set_size]
theorem laidIn_get {cells vs : Array Value} {off : Nat} (h : off + vs.size ≤ cells.size) (k : Nat) : (laidIn cells vs off)[k]? = if off ≤ k ∧ k < off + vs.size then vs[k - off]? else cells[k]? := by
  rw [laidIn_eq, foldl_set_get vs.toList off 0 cells k (by simpa using h)]
  simp

theorem fill_cons {place : Nat → Option (Nat × Nat)} {cells : Array Value} {i off sz : Nat} {v : Value} {rest : List (Nat × Value)} (hp : place i = some (off, sz)) (h1 : v.cells.size = sz) (h2 : off + sz ≤ cells.size) :
    Instr.fill place cells ((i, v) :: rest) = Instr.fill place (laidIn cells v.cells off) rest := by
  have hn : ¬ (cells.size < off + v.cells.size) := by omega
  simp only [Instr.fill, hp, h1, laidIn]
  simp
  intro h; omega

/-! ### aggregates built of parts -/

def fillD (place : Nat → Option (Nat × Nat)) : List D → List (Nat × D) → Option (Prop × List D)
  | cells, [] => some (True, cells)
  | cells, (i, d) :: rest => match place i with
    | some (off, sz) => match fillD place (cells.take off ++ (d.cells ++ cells.drop (off + sz))) rest with
      | some (p, r) => some ((d.good = true ∧ d.cells.length = sz ∧ off + sz ≤ cells.length) ∧ p, r)
      | none => none
    | none => none

def RepCs (I : Imm) (ρ : Locs) (cs : List D) (vs : Array Value) : Prop := cs.length = vs.size ∧ ∀ (i : Nat) (d : D) (x : Value), cs[i]? = some d → vs[i]? = some x → Rep I ρ d x

theorem fill_ok {place : Nat → Option (Nat × Nat)} : ∀ (parts : List (Nat × D)) (vparts : List (Nat × Value)) (cells : List D) (vcells : Array Value) (p : Prop) (r : List D), fillD place cells parts = some (p, r) → p →
    parts.map (·.1) = vparts.map (·.1) → RepL I ρ (parts.map (·.2)) (vparts.map (·.2)) → RepCs I ρ cells vcells → ∃ vr, Instr.fill place vcells vparts = some vr ∧ RepCs I ρ r vr
  | [], vparts, cells, vcells, p, r, he, hp, h1, h2, h3 => by
    simp only [fillD, Option.some.injEq, Prod.mk.injEq] at he
    obtain ⟨_, rfl⟩ := he
    cases vparts with
    | nil => exact ⟨vcells, rfl, h3⟩
    | cons _ _ => simp at h1
  | (i, d) :: rest, vparts, cells, vcells, p, r, he, hp, h1, h2, h3 => by
    match vparts, h1, h2 with
    | (i', v) :: vrest, h1, h2 =>
      simp only [List.map_cons, List.cons.injEq] at h1
      obtain ⟨rfl, h1⟩ := h1
      simp only [fillD] at he
      split at he
      · rename_i off sz hpl
        split at he
        · rename_i p' r' he'
          simp only [Option.some.injEq, Prod.mk.injEq] at he
          obtain ⟨rfl, rfl⟩ := he
          obtain ⟨⟨g1, g2, g3⟩, hp'⟩ := hp
          obtain ⟨hd, hrest⟩ := h2
          have hd : Rep I ρ d v := hd
          obtain ⟨c1, c2⟩ := hd.cells g1
          have hlen := h3.1
          rw [fill_cons hpl (by omega) (by omega)]
          refine fill_ok rest vrest _ _ p' r' he' hp' h1 hrest ⟨by rw [laidIn_size]; simp; omega, fun k d' x q1 q2 => ?_⟩
          rw [laidIn_get (by omega)] at q2
          by_cases hk : k < off
          · rw [if_neg (by omega)] at q2
            rw [List.getElem?_append_left (by simp; omega), List.getElem?_take, if_pos hk] at q1
            exact h3.2 k d' x q1 q2
          · by_cases hk2 : k < off + sz
            · rw [if_pos (by omega)] at q2
              rw [List.getElem?_append_right (by simp; omega)] at q1
              have e1 : (cells.take off).length = off := by simp; omega
              rw [e1, List.getElem?_append_left (by omega)] at q1
              exact c2 _ d' x q1 q2
            · rw [if_neg (by omega)] at q2
              rw [List.getElem?_append_right (by simp; omega)] at q1
              have e1 : (cells.take off).length = off := by simp; omega
              rw [e1, List.getElem?_append_right (by omega), List.getElem?_drop] at q1
              have e2 : off + sz + (k - off - d.cells.length) = k := by omega
              rw [e2] at q1
              exact h3.2 k d' x q1 q2
        · cases he
      · cases he

/-! ### rows built of parts -/

def fillRows (sz : Nat) : List (List D) → List (Nat × D) → Prop × List (List D)
  | rows, [] => (True, rows)
  | rows, (i, d) :: rest => ((d.good = true ∧ d.cells.length = sz ∧ i < rows.length ∧ ∀ c ∈ d.cells, c.atom = true) ∧ (fillRows sz (rows.set i d.cells) rest).1, (fillRows sz (rows.set i d.cells) rest).2)

structure RowsIn (I : Imm) (ρ : Locs) (sz : Nat) (rows : List (List D)) (c : Array Value) : Prop where
  len : ∀ row ∈ rows, row.length = sz
  size : c.size = rows.length * sz
  one : ∀ (j : Nat) (x : Value), c[j]? = some x → x.oneCell' = true
  rep : FlatRep I ρ sz rows c

theorem RowsIn.set {sz : Nat} {rows : List (List D)} {c : Array Value} (h : RowsIn I ρ sz rows c) {d : D} {v : Value} (hd : Rep I ρ d v) (hg : d.good = true) (hl : d.cells.length = sz) (hat : ∀ c ∈ d.cells, c.atom = true) {i : Nat} (hi : i < rows.length) :
    RowsIn I ρ sz (rows.set i d.cells) (laidIn c v.cells (i * sz)) := by
  obtain ⟨c1, c2⟩ := hd.cells hg
  have hb : i * sz + sz ≤ c.size := by
    rw [h.size]
    calc i * sz + sz = (i + 1) * sz := by rw [Nat.add_mul, Nat.one_mul]
      _ ≤ _ := Nat.mul_le_mul_right _ hi
  have hget := laidIn_get (cells := c) (vs := v.cells) (off := i * sz) (by omega)
  refine ⟨fun row hr => ?_, by rw [laidIn_size]; simpa using h.size, fun j x hx => ?_, fun i' j row d' x q1 q2 q3 => ?_⟩
  · rcases List.mem_or_eq_of_mem_set hr with hr | hr
    · exact h.len row hr
    · rw [hr]; exact hl
  · rw [hget j] at hx
    split at hx
    · rename_i hj
      have hlt : j - i * sz < d.cells.length := by omega
      exact (c2 _ _ x (List.getElem?_eq_getElem hlt) hx).one (hat _ (List.getElem_mem hlt))
    · exact h.one j x hx
  · rw [hget] at q3
    rw [List.getElem?_set] at q1
    by_cases hii : i = i'
    · subst hii
      simp only [hi, if_true, Option.some.injEq] at q1
      subst q1
      have hj := (List.getElem?_eq_some_iff.1 q2).1
      rw [if_pos (by omega)] at q3
      have : i * sz + j - i * sz = j := by omega
      rw [this] at q3
      exact c2 j d' x q2 q3
    · simp only [hii, if_false] at q1
      have hj := (List.getElem?_eq_some_iff.1 q2).1
      rw [h.len row (List.mem_of_getElem? q1)] at hj
      have hno : ¬ (i * sz ≤ i' * sz + j ∧ i' * sz + j < i * sz + v.cells.size) := by
        rintro ⟨a1, a2⟩
        rw [c1, hl] at a2
        rcases Nat.lt_or_ge i i' with hlt | hge
        · have : (i + 1) * sz ≤ i' * sz := Nat.mul_le_mul_right _ hlt
          rw [Nat.add_mul, Nat.one_mul] at this; omega
        · have : (i' + 1) * sz ≤ i * sz := Nat.mul_le_mul_right _ (by omega)
          rw [Nat.add_mul, Nat.one_mul] at this; omega
      rw [if_neg hno] at q3
      exact h.rep i' j row d' x q1 q2 q3

theorem fillRows_ok {sz : Nat} : ∀ (parts : List (Nat × D)) (vparts : List (Nat × Value)) (rows : List (List D)) (c : Array Value), (fillRows sz rows parts).1 → parts.map (·.1) = vparts.map (·.1) → RepL I ρ (parts.map (·.2)) (vparts.map (·.2)) → RowsIn I ρ sz rows c →
    ∃ c', Instr.fill (fun i => some (i * sz, sz)) c vparts = some c' ∧ RowsIn I ρ sz (fillRows sz rows parts).2 c' ∧ (fillRows sz rows parts).2.length = rows.length
  | [], vparts, rows, c, hp, h1, h2, h3 => by
    cases vparts with
    | nil => exact ⟨c, rfl, h3, rfl⟩
    | cons _ _ => simp at h1
  | (i, d) :: rest, vparts, rows, c, hp, h1, h2, h3 => by
    match vparts, h1, h2 with
    | (i', v) :: vrest, h1, h2 =>
      simp only [List.map_cons, List.cons.injEq] at h1
      obtain ⟨rfl, h1⟩ := h1
      obtain ⟨⟨g1, g2, g3, g4⟩, hp'⟩ := hp
      obtain ⟨hd, hrest⟩ := h2
      have hd : Rep I ρ d v := hd
      obtain ⟨c1, _⟩ := hd.cells g1
      have hb : i * sz + sz ≤ c.size := by
        rw [h3.size]
        calc i * sz + sz = (i + 1) * sz := by rw [Nat.add_mul, Nat.one_mul]
          _ ≤ _ := Nat.mul_le_mul_right _ g3
      rw [fill_cons (place := fun i => some (i * sz, sz)) rfl (by omega) hb]
      obtain ⟨c', q1, q2, q3⟩ := fillRows_ok rest vrest _ _ hp' h1 hrest (h3.set hd g1 g2 g4 g3)
      exact ⟨c', q1, q2, by simpa [fillRows] using q3⟩

end
end Go.Ab
