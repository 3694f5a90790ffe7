import Derived.Test.YtglcnghfmdcdpaaAbA
namespace Go.Ab
set_option linter.unusedSimpArgs false
set_option linter.unusedVariables false
abbrev PurR (α : Type) := Option (List Nat × Prop × α)
def purL (rec : D → PurR D) : List D → PurR (List D)
  | [] => some ([], True, [])
  | d :: ds => match rec d, purL rec ds with
    | some (i1, p1, d'), some (i2, p2, ds') => some (i1 ++ i2, p1 ∧ p2, d' :: ds')
    | _, _ => none
def purLL (rec : D → PurR D) : List (List D) → PurR (List (List D))
  | [] => some ([], True, [])
  | d :: ds => match purL rec d, purLL rec ds with
    | some (i1, p1, d'), some (i2, p2, ds') => some (i1 ++ i2, p1 ∧ p2, d' :: ds')
    | _, _ => none
def purB (h : Nat → Option AObj) (rec : D → PurR D) : D → PurR D
  | .own id off len => match h id with
    | some o => if o.flat = true then some ([id], off + len ≤ o.rows.length, .sl false ((o.rows.drop off).take len))
      else match purLL rec o.rows with
        | some (ids, p, rows) => some (id :: ids, p ∧ off + len ≤ rows.length, .sl false ((rows.drop off).take len))
        | none => none
    | none => none
  | .ptr id i k => match h id with
    | some o => if o.flat = true then some ([id], i < o.rows.length, .ref (o.rows.getD i []) k)
      else match purLL rec o.rows with
        | some (ids, p, rows) => some (id :: ids, p ∧ i < rows.length, .ref (rows.getD i []) k)
        | none => none
    | none => none
  | .agg cs => match purL rec cs with
    | some (ids, p, cs') => some (ids, p, .agg cs')
    | none => none
  | .tup cs => match purL rec cs with
    | some (ids, p, cs') => some (ids, p, .tup cs')
    | none => none
  | .fn f nf cs => match purL rec cs with
    | some (ids, p, cs') => some (ids, p, .fn f nf cs')
    | none => none
  | d => some ([], True, d)
def pur (h : Nat → Option AObj) : Nat → D → PurR D
  | 0 => purB h fun _ => none
  | n + 1 => purB h (pur h n)
section
variable {P : Program} {E : Ent} {st : St} {a : Act} {w : World} {ρ : Locs} {I : Imm} {tt : TypeId → Option TI}
def FrozenBy (h h1 : Nat → Option AObj) (ids : List Nat) : Prop := ∀ id ∈ ids, ∀ o, h id = some o → h1 id = some { o with wr := false }
def PurOk (h h1 : Nat → Option AObj) (I : Imm) (ρ : Locs) (w : World) (rec : D → PurR D) : Prop :=
  ∀ d ids p d' x, rec d = some (ids, p, d') → p → FrozenBy h h1 ids → Rep I ρ d x → Rep I noLocs d' x
theorem purL_ok {h h1 : Nat → Option AObj} {rec : D → PurR D} (hr : PurOk h h1 I ρ w rec) : ∀ {cs : List D} {ids : List Nat} {p : Prop} {cs' : List D}, purL rec cs = some (ids, p, cs') → p → FrozenBy h h1 ids →
    cs'.length = cs.length ∧ ∀ (i : Nat) (d' : D) (x : Value), cs'[i]? = some d' → (∀ d, cs[i]? = some d → Rep I ρ d x) → Rep I noLocs d' x
  | [], ids, p, cs', he, hp, hf => by
    simp only [purL, Option.some.injEq, Prod.mk.injEq] at he
    obtain ⟨_, _, rfl⟩ := he
    exact ⟨rfl, fun i d' x h => by simp at h⟩
  | c :: cs, ids, p, cs', he, hp, hf => by
    simp only [purL] at he
    split at he
    · rename_i i1 p1 d1 i2 p2 ds2 e1 e2
      simp only [Option.some.injEq, Prod.mk.injEq] at he
      obtain ⟨rfl, rfl, rfl⟩ := he
      obtain ⟨q1, q2⟩ := purL_ok hr e2 hp.2 (fun id hi => hf id (by simp [hi]))
      refine ⟨by simp [q1], fun i d' x h1 h2 => ?_⟩
      cases i with
      | zero =>
        simp at h1; subst h1
        exact hr _ _ _ _ _ e1 hp.1 (fun id hi => hf id (by simp [hi])) (h2 c (by simp))
      | succ i => exact q2 i d' x (by simpa using h1) (fun d hd => h2 d (by simpa using hd))
    · cases he
theorem purLL_ok {h h1 : Nat → Option AObj} {rec : D → PurR D} (hr : PurOk h h1 I ρ w rec) : ∀ {cs : List (List D)} {ids : List Nat} {p : Prop} {cs' : List (List D)}, purLL rec cs = some (ids, p, cs') → p → FrozenBy h h1 ids →
    cs'.length = cs.length ∧ (∀ (i : Nat) (row' : List D), cs'[i]? = some row' → ∃ row : List D, cs[i]? = some row ∧ row'.length = row.length) ∧
    ∀ (i j : Nat) (row' : List D) (d' : D) (x : Value), cs'[i]? = some row' → row'[j]? = some d' → (∀ row d, cs[i]? = some row → row[j]? = some d → Rep I ρ d x) → Rep I noLocs d' x
  | [], ids, p, cs', he, hp, hf => by
    simp only [purLL, Option.some.injEq, Prod.mk.injEq] at he
    obtain ⟨_, _, rfl⟩ := he
    exact ⟨rfl, fun i d' h => by simp at h, fun i j row d' x h => by simp at h⟩
  | c :: cs, ids, p, cs', he, hp, hf => by
    simp only [purLL] at he
    split at he
    · rename_i i1 p1 d1 i2 p2 ds2 e1 e2
      simp only [Option.some.injEq, Prod.mk.injEq] at he
      obtain ⟨rfl, rfl, rfl⟩ := he
      obtain ⟨q1, q3, q2⟩ := purLL_ok hr e2 hp.2 (fun id hi => hf id (by simp [hi]))
      obtain ⟨r1, r2⟩ := purL_ok hr e1 hp.1 (fun id hi => hf id (by simp [hi]))
      refine ⟨by simp [q1], fun i row' h1 => ?_, fun i j row' d' x h1 h3 h2 => ?_⟩
      · cases i with
        | zero => simp at h1; subst h1; exact ⟨c, by simp, r1⟩
        | succ i => simpa using q3 i row' (by simpa using h1)
      · cases i with
        | zero =>
          simp at h1; subst h1
          exact r2 j d' x h3 (fun d hd => h2 c d (by simp) hd)
        | succ i => exact q2 i j row' d' x (by simpa using h1) h3 (fun row d hd => h2 row d (by simpa using hd))
    · cases he
theorem rep_sl_of_obj {o : AObj} {l : Loc} {id off len : Nat} {rows : List (List D)} {x : Value} (hl : ρ id = some l) (hlaid : LaidObj I ρ w { o with wr := false } l) (hx : Rep I ρ (.own id off len) x)
    (hlen : rows.length = o.rows.length) (hrow : ∀ row ∈ rows, row.length = o.sz) (hle : off + len ≤ rows.length)
    (hc : ∀ (i j : Nat) (row : List D) (d : D) (x : Value), rows[i]? = some row → row[j]? = some d → (∀ row0 d0, o.rows[i]? = some row0 → row0[j]? = some d0 → Rep I (if o.flat then noLocs else ρ) d0 x) → Rep I noLocs d x) :
    Rep I noLocs (.sl false ((rows.drop off).take len)) x := by
  cases hx with
  | own _ _ _ _ l' ad hl' hcap ha =>
    rw [hl] at hl'; cases hl'
    have hlen2 : ((rows.drop off).take len).length = len := by simp; omega
    by_cases h0 : len = 0
    · subst h0
      simp only [List.take_zero]
      exact .nil _ _ _ _ (by simp)
    · rcases ha with ha | ⟨b, hb, rfl⟩
      · omega
      · rcases hlaid.mem with ⟨h1, _⟩ | ⟨b', c, e, lo, hi, q1, q2, q3, q4, q5, q6, hone, q7⟩
        · rw [h1] at hb; cases hb
        · have hbb : b' = b := by rw [q1] at hb; exact Option.some.inj hb
          subst hbb
          have hsz : l.sz = o.sz := hlaid.sz
          have hle2 : (off + len) * o.sz ≤ l.cap * o.sz := Nat.mul_le_mul_right _ hcap
          rw [Nat.add_mul] at hle2
          have q4' : l.off + l.cap * o.sz ≤ c.size := q4
          rw [hsz]
          have := Rep.sl (I := I) noLocs false ((rows.drop off).take len) b' (l.off + off * o.sz) (l.cap - off) o.sz c (q5 rfl) (fun row hr => hrow row (List.mem_of_mem_drop (List.mem_of_mem_take hr)))
            (by rw [hlen2]; omega) (by rw [hlen2]; omega) (by simp) (fun j x _ hx => hone _ _ hx) (fun i j row d x hr hd hx => by
              rw [List.getElem?_take] at hr
              split at hr
              · rw [List.getElem?_drop] at hr
                refine hc (off + i) j row d x hr hd fun row0 d0 h0 h1 => q7 (off + i) j row0 d0 x h0 h1 ?_
                rw [Nat.add_mul, ← Nat.add_assoc]; exact hx
              · cases hr)
          rw [hlen2] at this
          exact this
theorem rep_ref_of_obj {o : AObj} {l : Loc} {id i k : Nat} {rows : List (List D)} {x : Value} (hl : ρ id = some l) (hlaid : LaidObj I ρ w { o with wr := false } l) (hx : Rep I ρ (.ptr id i k) x)
    (hlen : rows.length = o.rows.length) (hrow : ∀ row ∈ rows, row.length = o.sz) (hi : i < rows.length)
    (hc : ∀ (i j : Nat) (row : List D) (d : D) (x : Value), rows[i]? = some row → row[j]? = some d → (∀ row0 d0, o.rows[i]? = some row0 → row0[j]? = some d0 → Rep I (if o.flat then noLocs else ρ) d0 x) → Rep I noLocs d x) :
    Rep I noLocs (.ref (rows.getD i []) k) x := by
  cases hx with
  | ptr _ _ _ _ b l' hl' hb =>
    rw [hl] at hl'; cases hl'
    rcases hlaid.mem with ⟨h1, _⟩ | ⟨b', c, e, lo, hi', q1, q2, q3, q4, q5, q6, hone, q7⟩
    · rw [h1] at hb; cases hb
    · have hbb : b' = b := by rw [q1] at hb; exact Option.some.inj hb
      subst hbb
      have hsz : l.sz = o.sz := hlaid.sz
      have hr := getD_rows hi
      have hrl := hrow _ (List.mem_of_getElem? hr)
      have hcap : o.rows.length ≤ l.cap := hlaid.cap
      have hle2 : (i + 1) * o.sz ≤ l.cap * o.sz := Nat.mul_le_mul_right _ (by omega)
      rw [Nat.add_mul, Nat.one_mul] at hle2
      have q4' : l.off + l.cap * o.sz ≤ c.size := q4
      rw [hsz]
      exact .ref _ _ _ b' (l.off + i * o.sz) c (q5 rfl) (by omega) (fun j x hj hx => hone _ _ hx) fun j d x hd hx => hc i j _ d x hr hd fun row0 d0 h0 h1 => q7 i j row0 d0 x h0 h1 hx
theorem purB_ok {h h1 : Nat → Option AObj} {rec : D → PurR D} (hr : PurOk h h1 I ρ w rec) (hm : Mem I ρ h1 w) (hh : ∀ id o, h id = some o → ∀ row ∈ o.rows, row.length = o.sz) : PurOk h h1 I ρ w (purB h rec) := by
  intro d ids p d' x he hp hf hx
  have flatc : ∀ (o : AObj), o.flat = true → ∀ (i j : Nat) (row : List D) (d : D) (x : Value), o.rows[i]? = some row → row[j]? = some d → (∀ row0 d0, o.rows[i]? = some row0 → row0[j]? = some d0 → Rep I (if o.flat then noLocs else ρ) d0 x) → Rep I noLocs d x := by
    intro o ho i j row d x h1 h2 h3
    have := h3 row d h1 h2
    simpa [ho] using this
  cases d with
  | own id off len =>
    simp only [purB] at he
    cases ho : h id with
    | none => simp [ho] at he
    | some o =>
      simp only [ho] at he
      split at he
      · rename_i hflat
        simp only [Option.some.injEq, Prod.mk.injEq] at he
        obtain ⟨rfl, rfl, rfl⟩ := he
        obtain ⟨l, hl, hlaid⟩ := hm.laid id _ (hf id (by simp) o ho)
        exact rep_sl_of_obj hl hlaid hx rfl (hh _ _ ho) hp (flatc o hflat)
      · rename_i hflat
        split at he
        · rename_i ids2 p2 rows e2
          simp only [Option.some.injEq, Prod.mk.injEq] at he
          obtain ⟨rfl, rfl, rfl⟩ := he
          obtain ⟨l, hl, hlaid⟩ := hm.laid id _ (hf id (by simp) o ho)
          obtain ⟨q1, q3, q2⟩ := purLL_ok hr e2 hp.1 (fun id hi => hf id (by simp [hi]))
          refine rep_sl_of_obj hl hlaid hx q1 (fun row hrow => ?_) hp.2 (fun i j row d x g1 g2 g3 => q2 i j row d x g1 g2 fun row0 d0 k1 k2 => by simpa [hflat] using g3 row0 d0 k1 k2)
          obtain ⟨i, hi⟩ := List.getElem?_of_mem hrow
          obtain ⟨row0, r1, r2⟩ := q3 i row hi
          rw [r2]; exact hh _ _ ho _ (List.mem_of_getElem? r1)
        · cases he
  | ptr id i k =>
    simp only [purB] at he
    cases ho : h id with
    | none => simp [ho] at he
    | some o =>
      simp only [ho] at he
      split at he
      · rename_i hflat
        simp only [Option.some.injEq, Prod.mk.injEq] at he
        obtain ⟨rfl, rfl, rfl⟩ := he
        obtain ⟨l, hl, hlaid⟩ := hm.laid id _ (hf id (by simp) o ho)
        exact rep_ref_of_obj hl hlaid hx rfl (hh _ _ ho) hp (flatc o hflat)
      · rename_i hflat
        split at he
        · rename_i ids2 p2 rows e2
          simp only [Option.some.injEq, Prod.mk.injEq] at he
          obtain ⟨rfl, rfl, rfl⟩ := he
          obtain ⟨l, hl, hlaid⟩ := hm.laid id _ (hf id (by simp) o ho)
          obtain ⟨q1, q3, q2⟩ := purLL_ok hr e2 hp.1 (fun id hi => hf id (by simp [hi]))
          refine rep_ref_of_obj hl hlaid hx q1 (fun row hrow => ?_) hp.2 (fun i j row d x g1 g2 g3 => q2 i j row d x g1 g2 fun row0 d0 k1 k2 => by simpa [hflat] using g3 row0 d0 k1 k2)
          obtain ⟨i, hi⟩ := List.getElem?_of_mem hrow
          obtain ⟨row0, r1, r2⟩ := q3 i row hi
          rw [r2]; exact hh _ _ ho _ (List.mem_of_getElem? r1)
        · cases he
  | agg cs =>
    simp only [purB] at he
    split at he
    · rename_i ids2 p2 cs2 e2
      simp only [Option.some.injEq, Prod.mk.injEq] at he
      obtain ⟨rfl, rfl, rfl⟩ := he
      obtain ⟨q1, q2⟩ := purL_ok hr e2 hp hf
      cases hx with
      | agg _ _ vs hl hv =>
        refine .agg _ _ vs (by omega) fun i d x g1 g2 => q2 i d x g1 fun d0 g3 => hv i d0 x g3 g2
    · cases he
  | tup cs =>
    simp only [purB] at he
    split at he
    · rename_i ids2 p2 cs2 e2
      simp only [Option.some.injEq, Prod.mk.injEq] at he
      obtain ⟨rfl, rfl, rfl⟩ := he
      obtain ⟨q1, q2⟩ := purL_ok hr e2 hp hf
      cases hx with
      | tup _ _ vs hl hv =>
        refine .tup _ _ vs (by omega) fun i d x g1 g2 => q2 i d x g1 fun d0 g3 => hv i d0 x g3 g2
    · cases he
  | fn f nf cs =>
    simp only [purB] at he
    split at he
    · rename_i ids2 p2 cs2 e2
      simp only [Option.some.injEq, Prod.mk.injEq] at he
      obtain ⟨rfl, rfl, rfl⟩ := he
      obtain ⟨q1, q2⟩ := purL_ok hr e2 hp hf
      cases hx with
      | fn _ _ _ _ fs vs hn hl hv =>
        refine .fn _ f _ _ fs vs hn (by omega) fun i d x g1 g2 => q2 i d x g1 fun d0 g3 => hv i d0 x g3 g2
    · cases he
  | v y =>
    simp only [purB, Option.some.injEq, Prod.mk.injEq] at he
    obtain ⟨_, _, rfl⟩ := he
    cases hx; exact .v _ _
  | sl f rows =>
    simp only [purB, Option.some.injEq, Prod.mk.injEq] at he
    obtain ⟨_, _, rfl⟩ := he
    exact hx.locs (p := fun _ => false) (by simp) rfl
  | ref row k =>
    simp only [purB, Option.some.injEq, Prod.mk.injEq] at he
    obtain ⟨_, _, rfl⟩ := he
    exact hx.locs (p := fun _ => false) (by simp) rfl
  | junk =>
    simp only [purB, Option.some.injEq, Prod.mk.injEq] at he
    obtain ⟨_, _, rfl⟩ := he
    exact .junk _ _
theorem pur_ok {h h1 : Nat → Option AObj} (hm : Mem I ρ h1 w) (hh : ∀ id o, h id = some o → ∀ row ∈ o.rows, row.length = o.sz) : ∀ n, PurOk h h1 I ρ w (pur h n)
  | 0 => purB_ok (fun d ids p d' x he => by cases he) hm hh
  | n + 1 => purB_ok (pur_ok hm hh n) hm hh
theorem RB.rowsLen (h : RB E st a w ρ I) : ∀ id o, st.heap id = some o → ∀ row ∈ o.rows, row.length = o.sz := fun id o ho row hr =>
  (h.mem.laid id o ho).choose_spec.2.rows row hr
theorem frozenBy_freeze (ids : List Nat) : FrozenBy st.heap (st.freeze ids).heap ids := by
  intro id hi o ho
  simp [St.freeze, hi, ho]
theorem RB.pur (h : RB E st a w ρ I) {n : Nat} {d d' : D} {ids : List Nat} {p : Prop} (he : pur st.heap n d = some (ids, p, d')) (hp : p) {x : Value} (hx : Rep I ρ d x) :
    ∃ J, (∀ b c, I b = some c → J b = some c) ∧ RB E (st.freeze ids) a w ρ J ∧ Rep J noLocs d' x := by
  obtain ⟨J, hJ, h'⟩ := h.freeze ids
  exact ⟨J, hJ, h', pur_ok h'.mem h.rowsLen n d ids p d' x he hp (frozenBy_freeze ids) (hx.imm hJ)⟩
theorem RB.purL (h : RB E st a w ρ I) {n : Nat} {ds ds' : List D} {ids : List Nat} {p : Prop} (he : purL (Go.Ab.pur st.heap n) ds = some (ids, p, ds')) (hp : p) {xs : List Value} (hx : RepL I ρ ds xs) :
    ∃ J, (∀ b c, I b = some c → J b = some c) ∧ RB E (st.freeze ids) a w ρ J ∧ RepL J noLocs ds' xs := by
  obtain ⟨J, hJ, h'⟩ := h.freeze ids
  refine ⟨J, hJ, h', ?_⟩
  have key : ∀ (ds : List D) (ids2 : List Nat) (p : Prop) (ds' : List D) (xs : List Value), Go.Ab.purL (Go.Ab.pur st.heap n) ds = some (ids2, p, ds') → p → FrozenBy st.heap (st.freeze ids).heap ids2 → RepL I ρ ds xs → RepL J noLocs ds' xs := by
    intro ds
    induction ds with
    | nil =>
      intro ids2 p ds' xs he _ _ hx
      simp only [Go.Ab.purL, Option.some.injEq, Prod.mk.injEq] at he
      obtain ⟨_, _, rfl⟩ := he
      cases xs with
      | nil => trivial
      | cons x xs => simp [RepL] at hx
    | cons d ds ih =>
      intro ids2 p ds' xs he hp hf hx
      simp only [Go.Ab.purL] at he
      split at he
      · rename_i i1 p1 d1 i2 p2 ds2 e1 e2
        simp only [Option.some.injEq, Prod.mk.injEq] at he
        obtain ⟨rfl, rfl, rfl⟩ := he
        cases xs with
        | nil => simp [RepL] at hx
        | cons x xs =>
          exact ⟨pur_ok h'.mem h.rowsLen n d i1 p1 d1 x e1 hp.1 (fun id hi => hf id (by simp [hi])) (hx.1.imm hJ), ih i2 p2 ds2 xs e2 hp.2 (fun id hi => hf id (by simp [hi])) hx.2⟩
      · cases he
  exact key ds ids p ds' xs he hp (frozenBy_freeze ids) hx
def St.bind (st : St) (id : Nat) (o : AObj) : St := { st with slots := killS id st.slots, heap := upd (killH id st.heap) id (o.kill id) }
def FlatRep (I : Imm) (ρ : Locs) (sz : Nat) (rows : List (List D)) (c : Array Value) : Prop :=
  ∀ (i j : Nat) (row : List D) (d : D) (x : Value), rows[i]? = some row → row[j]? = some d → c[i * sz + j]? = some x → Rep I ρ d x
theorem RB.new (h : RB E st a w ρ I) (id : Nat) {o : AObj} {c : Array Value} {e : TypeId} {lo hi cap : Nat} {w' : World} (hh : w'.heap = w.heap.push (.cells c e (lo, hi))) (h1 : w'.os = w.os) (h2 : w'.tape = w.tape) (h3 : w'.output = w.output)
    (hfr : Unfr c.size lo hi) (hwr : o.wr = true) (hpos : 0 < o.sz) (hrow : ∀ row ∈ o.rows, row.length = o.sz) (hcap : o.rows.length ≤ cap) (hsz : cap * o.sz ≤ c.size) (hone : ∀ (j : Nat) (x : Value), c[j]? = some x → x.oneCell' = true)
    (hc : FlatRep I (if o.flat then noLocs else ρ) o.sz o.rows c) (hpin : o.pin = false := by rfl) :
    RB E (st.bind id o) a w' (updL ρ id ⟨some w.heap.size, 0, cap, o.sz⟩) I := by
  have hr : Rebind st w w' ρ id w.heap.size := by
    refine ⟨h1, h2, h3, by rw [hh]; simp, fun k hk hlt => ?_, .inl (Nat.le_refl _)⟩
    rw [hh, Array.getElem?_push, if_neg hk]
  have hn : I w.heap.size = none := by
    cases hI : I w.heap.size with
    | none => rfl
    | some c => have := h.mem.imm.lt hI; omega
  refine h.rebind hr (.inl rfl) ⟨rfl, hpos, hrow, hcap, .inr ⟨w.heap.size, c, e, lo, hi, rfl, by rw [hh]; simp, hfr, by simpa using hsz, by simp [hwr], fun _ => hn, hone, fun i j row d x q1 q2 q3 => hc i j row d x q1 q2 (by simpa using q3)⟩⟩ hpin
theorem rep_new {id len : Nat} {l : Loc} {b : Nat} (hb : l.blk = some b) (ho : l.off = 0) (hle : len ≤ l.cap) : Rep I (updL ρ id l) (.own id 0 len) (.slice (some ⟨b, 0, none⟩) len l.cap) := by
  have := Rep.own (I := I) (updL ρ id l) id 0 len l (some ⟨b, 0, none⟩) updL_eq (by omega) (.inr ⟨b, hb, by simp [ho]⟩)
  simpa using this
theorem rep_new_ptr {id : Nat} {l : Loc} {b : Nat} (hb : l.blk = some b) (ho : l.off = 0) : Rep I (updL ρ id l) (.ptr id 0 0) (.pointer (some ⟨b, 0, none⟩)) := by
  have := Rep.ptr (I := I) (updL ρ id l) id 0 0 b l updL_eq hb
  simpa [ho] using this
theorem flatRep_zero {z : Array Value} {n sz : Nat} (hz : z.size = sz) (hsz : 0 < sz) : FlatRep I noLocs sz (List.replicate n (z.toList.map ofAtom)) (madeCells z (n * sz)) := by
  intro i j row d x h1 h2 h3
  rw [List.getElem?_replicate] at h1
  split at h1
  · cases h1
    have hj : j < sz := by have := (List.getElem?_eq_some_iff.1 h2).1; simp at this; omega
    simp only [List.getElem?_map, Array.getElem?_toList] at h2
    have hj' : z[j]? = some z[j] := Array.getElem?_eq_getElem (by omega)
    rw [hj'] at h2
    simp only [Option.map_some, Option.some.injEq] at h2
    subst h2
    simp only [madeCells, Array.getElem?_map] at h3
    have hlt := mul_lt_of (n := n) ‹i < n› hj
    rw [Array.getElem?_range, if_pos hlt] at h3
    simp only [Option.map_some, Option.some.injEq] at h3
    have hm : (i * sz + j) % z.size = j := by rw [hz, Nat.mul_comm, Nat.mul_add_mod, Nat.mod_eq_of_lt hj]
    rw [hm] at h3
    subst h3
    rw [getElem!_pos z j (by omega)]
    exact rep_ofAtom _ _ _
  · cases h1
theorem one_made {z : Array Value} {m : Nat} (hz : 0 < z.size) (h1 : (z.all (·.oneCell')) = true) (j : Nat) (x : Value) (hx : (madeCells z m)[j]? = some x) : x.oneCell' = true := by
  simp only [madeCells, Array.getElem?_map] at hx
  cases hr : (Array.range m)[j]? with
  | none => simp [hr] at hx
  | some k =>
    simp only [hr, Option.map_some, Option.some.injEq] at hx
    subst hx
    have hk : k % z.size < z.size := Nat.mod_lt _ hz
    rw [getElem!_pos z (k % z.size) hk]
    exact (Array.all_eq_true_iff_forall_mem.1 h1) _ (Array.getElem_mem hk)
theorem foldl_set_get (vs : List Value) (off : Nat) : ∀ (n : Nat) (cells : Array Value) (k : Nat), off + n + vs.length ≤ cells.size →
    ((vs.zipIdx n).foldl (fun (cs : Array Value) (x : Value × Nat) => cs.setIfInBounds (off + x.2) x.1) cells)[k]? = if off + n ≤ k ∧ k < off + n + vs.length then vs[k - (off + n)]? else cells[k]? := by
  induction vs with
  | nil => intro n cells k _; simp; omega
  | cons v vs ih =>
    intro n cells k hk
    simp only [List.zipIdx_cons, List.foldl_cons]
    simp only [List.length_cons] at hk ⊢
    rw [ih (n + 1) _ k (by simp; omega)]
    by_cases h1 : k = off + n
    · subst h1
      have : ¬ (off + (n + 1) ≤ off + n ∧ off + n < off + (n + 1) + vs.length) := by omega
      rw [if_neg this, if_pos (by omega)]
      simp [Array.getElem?_setIfInBounds]
      omega
    · by_cases h2 : off + (n + 1) ≤ k ∧ k < off + (n + 1) + vs.length
      · rw [if_pos h2, if_pos (by omega)]
        have : k - (off + n) = (k - (off + (n + 1))) + 1 := by omega
        rw [this, List.getElem?_cons_succ]
      · rw [if_neg h2, if_neg (by omega)]
        simp [Array.getElem?_setIfInBounds]
        omega
def laidIn (cells vs : Array Value) (off : Nat) : Array Value := vs.zipIdx.foldl (fun cs x => cs.setIfInBounds (off + x.2) x.1) cells
theorem foldl_set_size (off : Nat) : ∀ (l : List (Value × Nat)) (cells : Array Value), (l.foldl (fun (cs : Array Value) (x : Value × Nat) => cs.setIfInBounds (off + x.2) x.1) cells).size = cells.size
  | [], cells => rfl
  | x :: l, cells => by simp only [List.foldl_cons]; rw [foldl_set_size off l]; simp
theorem laidIn_eq (cells vs : Array Value) (off : Nat) : laidIn cells vs off = (vs.toList.zipIdx 0).foldl (fun (cs : Array Value) (x : Value × Nat) => cs.setIfInBounds (off + x.2) x.1) cells := by
  unfold laidIn
  rw [← Array.foldl_toList]
  simp
theorem laidIn_size (cells vs : Array Value) (off : Nat) : (laidIn cells vs off).size = cells.size := by
  rw [laidIn_eq, foldl_set_size]
theorem laidIn_get {cells vs : Array Value} {off : Nat} (h : off + vs.size ≤ cells.size) (k : Nat) : (laidIn cells vs off)[k]? = if off ≤ k ∧ k < off + vs.size then vs[k - off]? else cells[k]? := by
  rw [laidIn_eq, foldl_set_get vs.toList off 0 cells k (by simpa using h)]
  simp
theorem fill_cons {place : Nat → Option (Nat × Nat)} {cells : Array Value} {i off sz : Nat} {v : Value} {rest : List (Nat × Value)} (hp : place i = some (off, sz)) (h1 : v.cells.size = sz) (h2 : off + sz ≤ cells.size) :
    Instr.fill place cells ((i, v) :: rest) = Instr.fill place (laidIn cells v.cells off) rest := by
  have hn : ¬ (cells.size < off + v.cells.size) := by omega
  simp only [Instr.fill, hp, h1, laidIn]
  simp
  intro h; omega
def fillD (place : Nat → Option (Nat × Nat)) : List D → List (Nat × D) → Option (Prop × List D)
  | cells, [] => some (True, cells)
  | cells, (i, d) :: rest => match place i with
    | some (off, sz) => match fillD place (cells.take off ++ (d.cells ++ cells.drop (off + sz))) rest with
      | some (p, r) => some ((d.good = true ∧ d.cells.length = sz ∧ off + sz ≤ cells.length) ∧ p, r)
      | none => none
    | none => none
def RepCs (I : Imm) (ρ : Locs) (cs : List D) (vs : Array Value) : Prop := cs.length = vs.size ∧ ∀ (i : Nat) (d : D) (x : Value), cs[i]? = some d → vs[i]? = some x → Rep I ρ d x
theorem fill_ok {place : Nat → Option (Nat × Nat)} : ∀ (parts : List (Nat × D)) (vparts : List (Nat × Value)) (cells : List D) (vcells : Array Value) (p : Prop) (r : List D), fillD place cells parts = some (p, r) → p →
    parts.map (·.1) = vparts.map (·.1) → RepL I ρ (parts.map (·.2)) (vparts.map (·.2)) → RepCs I ρ cells vcells → ∃ vr, Instr.fill place vcells vparts = some vr ∧ RepCs I ρ r vr
  | [], vparts, cells, vcells, p, r, he, hp, h1, h2, h3 => by
    simp only [fillD, Option.some.injEq, Prod.mk.injEq] at he
    obtain ⟨_, rfl⟩ := he
    cases vparts with
    | nil => exact ⟨vcells, rfl, h3⟩
    | cons _ _ => simp at h1
  | (i, d) :: rest, vparts, cells, vcells, p, r, he, hp, h1, h2, h3 => by
    match vparts, h1, h2 with
    | (i', v) :: vrest, h1, h2 =>
      simp only [List.map_cons, List.cons.injEq] at h1
      obtain ⟨rfl, h1⟩ := h1
      simp only [fillD] at he
      split at he
      · rename_i off sz hpl
        split at he
        · rename_i p' r' he'
          simp only [Option.some.injEq, Prod.mk.injEq] at he
          obtain ⟨rfl, rfl⟩ := he
          obtain ⟨⟨g1, g2, g3⟩, hp'⟩ := hp
          obtain ⟨hd, hrest⟩ := h2
          have hd : Rep I ρ d v := hd
          obtain ⟨c1, c2⟩ := hd.cells g1
          have hlen := h3.1
          rw [fill_cons hpl (by omega) (by omega)]
          refine fill_ok rest vrest _ _ p' r' he' hp' h1 hrest ⟨by rw [laidIn_size]; simp; omega, fun k d' x q1 q2 => ?_⟩
          rw [laidIn_get (by omega)] at q2
          by_cases hk : k < off
          · rw [if_neg (by omega)] at q2
            rw [List.getElem?_append_left (by simp; omega), List.getElem?_take, if_pos hk] at q1
            exact h3.2 k d' x q1 q2
          · by_cases hk2 : k < off + sz
            · rw [if_pos (by omega)] at q2
              rw [List.getElem?_append_right (by simp; omega)] at q1
              have e1 : (cells.take off).length = off := by simp; omega
              rw [e1, List.getElem?_append_left (by omega)] at q1
              exact c2 _ d' x q1 q2
            · rw [if_neg (by omega)] at q2
              rw [List.getElem?_append_right (by simp; omega)] at q1
              have e1 : (cells.take off).length = off := by simp; omega
              rw [e1, List.getElem?_append_right (by omega), List.getElem?_drop] at q1
              have e2 : off + sz + (k - off - d.cells.length) = k := by omega
              rw [e2] at q1
              exact h3.2 k d' x q1 q2
        · cases he
      · cases he
def fillRows (sz : Nat) : List (List D) → List (Nat × D) → Prop × List (List D)
  | rows, [] => (True, rows)
  | rows, (i, d) :: rest => ((d.good = true ∧ d.cells.length = sz ∧ i < rows.length ∧ ∀ c ∈ d.cells, c.atom = true) ∧ (fillRows sz (rows.set i d.cells) rest).1, (fillRows sz (rows.set i d.cells) rest).2)
structure RowsIn (I : Imm) (ρ : Locs) (sz : Nat) (rows : List (List D)) (c : Array Value) : Prop where
  len : ∀ row ∈ rows, row.length = sz
  size : c.size = rows.length * sz
  one : ∀ (j : Nat) (x : Value), c[j]? = some x → x.oneCell' = true
  rep : FlatRep I ρ sz rows c
theorem RowsIn.set {sz : Nat} {rows : List (List D)} {c : Array Value} (h : RowsIn I ρ sz rows c) {d : D} {v : Value} (hd : Rep I ρ d v) (hg : d.good = true) (hl : d.cells.length = sz) (hat : ∀ c ∈ d.cells, c.atom = true) {i : Nat} (hi : i < rows.length) :
    RowsIn I ρ sz (rows.set i d.cells) (laidIn c v.cells (i * sz)) := by
  obtain ⟨c1, c2⟩ := hd.cells hg
  have hb : i * sz + sz ≤ c.size := by
    rw [h.size]
    calc i * sz + sz = (i + 1) * sz := by rw [Nat.add_mul, Nat.one_mul]
      _ ≤ _ := Nat.mul_le_mul_right _ hi
  have hget := laidIn_get (cells := c) (vs := v.cells) (off := i * sz) (by omega)
  refine ⟨fun row hr => ?_, by rw [laidIn_size]; simpa using h.size, fun j x hx => ?_, fun i' j row d' x q1 q2 q3 => ?_⟩
  · rcases List.mem_or_eq_of_mem_set hr with hr | hr
    · exact h.len row hr
    · rw [hr]; exact hl
  · rw [hget j] at hx
    split at hx
    · rename_i hj
      have hlt : j - i * sz < d.cells.length := by omega
      exact (c2 _ _ x (List.getElem?_eq_getElem hlt) hx).one (hat _ (List.getElem_mem hlt))
    · exact h.one j x hx
  · rw [hget] at q3
    rw [List.getElem?_set] at q1
    by_cases hii : i = i'
    · subst hii
      simp only [hi, if_true, Option.some.injEq] at q1
      subst q1
      have hj := (List.getElem?_eq_some_iff.1 q2).1
      rw [if_pos (by omega)] at q3
      have : i * sz + j - i * sz = j := by omega
      rw [this] at q3
      exact c2 j d' x q2 q3
    · simp only [hii, if_false] at q1
      have hj := (List.getElem?_eq_some_iff.1 q2).1
      rw [h.len row (List.mem_of_getElem? q1)] at hj
      have hno : ¬ (i * sz ≤ i' * sz + j ∧ i' * sz + j < i * sz + v.cells.size) := by
        rintro ⟨a1, a2⟩
        rw [c1, hl] at a2
        rcases Nat.lt_or_ge i i' with hlt | hge
        · have : (i + 1) * sz ≤ i' * sz := Nat.mul_le_mul_right _ hlt
          rw [Nat.add_mul, Nat.one_mul] at this; omega
        · have : (i' + 1) * sz ≤ i * sz := Nat.mul_le_mul_right _ (by omega)
          rw [Nat.add_mul, Nat.one_mul] at this; omega
      rw [if_neg hno] at q3
      exact h.rep i' j row d' x q1 q2 q3
theorem fillRows_ok {sz : Nat} : ∀ (parts : List (Nat × D)) (vparts : List (Nat × Value)) (rows : List (List D)) (c : Array Value), (fillRows sz rows parts).1 → parts.map (·.1) = vparts.map (·.1) → RepL I ρ (parts.map (·.2)) (vparts.map (·.2)) → RowsIn I ρ sz rows c →
    ∃ c', Instr.fill (fun i => some (i * sz, sz)) c vparts = some c' ∧ RowsIn I ρ sz (fillRows sz rows parts).2 c' ∧ (fillRows sz rows parts).2.length = rows.length
  | [], vparts, rows, c, hp, h1, h2, h3 => by
    cases vparts with
    | nil => exact ⟨c, rfl, h3, rfl⟩
    | cons _ _ => simp at h1
  | (i, d) :: rest, vparts, rows, c, hp, h1, h2, h3 => by
    match vparts, h1, h2 with
    | (i', v) :: vrest, h1, h2 =>
      simp only [List.map_cons, List.cons.injEq] at h1
      obtain ⟨rfl, h1⟩ := h1
      obtain ⟨⟨g1, g2, g3, g4⟩, hp'⟩ := hp
      obtain ⟨hd, hrest⟩ := h2
      have hd : Rep I ρ d v := hd
      obtain ⟨c1, _⟩ := hd.cells g1
      have hb : i * sz + sz ≤ c.size := by
        rw [h3.size]
        calc i * sz + sz = (i + 1) * sz := by rw [Nat.add_mul, Nat.one_mul]
          _ ≤ _ := Nat.mul_le_mul_right _ g3
      rw [fill_cons (place := fun i => some (i * sz, sz)) rfl (by omega) hb]
      obtain ⟨c', q1, q2, q3⟩ := fillRows_ok rest vrest _ _ hp' h1 hrest (h3.set hd g1 g2 g4 g3)
      exact ⟨c', q1, q2, by simpa [fillRows] using q3⟩
end
end Go.Ab
namespace Go.Ab
set_option linter.unusedSimpArgs false
set_option linter.unusedVariables false
section
variable {P : Program} {E : Ent} {st : St} {a : Act} {w : World} {ρ : Locs} {I : Imm} {tt : TypeId → Option TI}
theorem run_storeCells_fr (g o : Nat) (t : TypeId) (lo hi : Nat) : ∀ (vs : List Value) (i : Nat) (cur : Array Value) (w : World), w.heap[g]? = some (.cells cur t (lo, hi)) → (∀ j, j < cur.size → ¬ (lo ≤ j ∧ j < hi)) → o + i + vs.length ≤ cur.size → (∀ v ∈ vs, v.oneCell' = true) →
    (storeCells ⟨g, o, none⟩ vs i).run P w = .ok () (w.setRow g (cur.toList.take (o + i) ++ vs ++ cur.toList.drop (o + i + vs.length)).toArray)
  | [], i, cur, w, hg, _, _, _ => by
    simp only [storeCells, List.append_nil, List.length_nil, Nat.add_zero, List.take_append_drop, Array.toArray_toList]
    rw [setRow_self w g cur t (lo, hi) hg]
    rfl
  | v :: rest, i, cur, w, hg, hf, hl, h1 => by
    have hi' : o + i < cur.size := by simp at hl; omega
    have hadd : (⟨g, o, none⟩ : Addr).add i = ⟨g, o + i, none⟩ := Addr.add_lit _ _ _
    have hcell : w.cell? ⟨g, o + i, none⟩ = some cur[o + i] := by simp [World.cell?, hg, hi']
    have hfro : w.frozen? ⟨g, o + i, none⟩ = false := by
      have := hf _ hi'
      simp only [World.frozen?, hg]
      simp only [Bool.and_eq_false_iff, decide_eq_false_iff_not]
      omega
    have hst : (store ((⟨g, o, none⟩ : Addr).add i) v).run P w = .ok () (w.setRow g (cur.setIfInBounds (o + i) v)) := by
      rw [hadd, run_store P w _ v _ (h1 v (by simp)), hcell]
      simp [hfro, setCell_eq_setRow w g (o + i) cur t (lo, hi) v hg]
    have ih := run_storeCells_fr g o t lo hi rest (i + 1) (cur.setIfInBounds (o + i) v) (w.setRow g (cur.setIfInBounds (o + i) v)) (setRow_heap w g cur _ t _ hg) (by simpa using hf) (by simp at hl ⊢; omega) (fun x hx => h1 x (by simp [hx]))
    simp only [storeCells, Sem.run_bind, hst, Result.andThen_ok, ih, setRow_setRow]
    congr 3
    have e := list_seg_step cur.toList (o + i) v rest (by simp at hl ⊢; omega)
    simpa [Array.toList_setIfInBounds, Nat.add_assoc] using e
def over (cur : Array Value) (k : Nat) (vs : List Value) : Array Value := (cur.toList.take k ++ vs ++ cur.toList.drop (k + vs.length)).toArray
theorem over_size {cur : Array Value} {k : Nat} {vs : List Value} (h : k + vs.length ≤ cur.size) : (over cur k vs).size = cur.size := by
  simp [over]; omega
theorem over_get {cur : Array Value} {k : Nat} {vs : List Value} (h : k + vs.length ≤ cur.size) (j : Nat) : (over cur k vs)[j]? = if k ≤ j ∧ j < k + vs.length then vs[j - k]? else cur[j]? := by
  simp only [over, List.getElem?_toArray]
  by_cases h1 : j < k
  · rw [if_neg (by omega), List.append_assoc, List.getElem?_append_left (by simp; omega), List.getElem?_take, if_pos h1]; simp
  · by_cases h2 : j < k + vs.length
    · rw [if_pos (by omega), List.append_assoc, List.getElem?_append_right (by simp; omega)]
      have e : (cur.toList.take k).length = k := by simp; omega
      rw [e, List.getElem?_append_left (by omega)]
    · rw [if_neg (by omega), List.append_assoc, List.getElem?_append_right (by simp; omega)]
      have e : (cur.toList.take k).length = k := by simp; omega
      rw [e, List.getElem?_append_right (by omega), List.getElem?_drop]
      have e2 : k + vs.length + (j - k - vs.length) = j := by omega
      rw [e2]; simp
theorem run_store_over {g o : Nat} {t : TypeId} {lo hi : Nat} {vs : List Value} {cur : Array Value} (hg : w.heap[g]? = some (.cells cur t (lo, hi))) (hf : ∀ j, j < cur.size → ¬ (lo ≤ j ∧ j < hi)) (hl : o + vs.length ≤ cur.size) (h1 : ∀ v ∈ vs, v.oneCell' = true) :
    (storeCells ⟨g, o, none⟩ vs).run P w = .ok () (w.setRow g (over cur o vs)) := by
  have := run_storeCells_fr (P := P) g o t lo hi vs 0 cur w hg hf (by simpa using hl) h1
  simpa [over] using this
theorem over_one {cur : Array Value} {k : Nat} {vs : List Value} (h : k + vs.length ≤ cur.size) (hc : ∀ (j : Nat) (x : Value), cur[j]? = some x → x.oneCell' = true) (hv : ∀ v ∈ vs, v.oneCell' = true) (j : Nat) (x : Value) (hx : (over cur k vs)[j]? = some x) : x.oneCell' = true := by
  rw [over_get h] at hx
  split at hx
  · exact hv _ (List.mem_of_getElem? hx)
  · exact hc _ _ hx
theorem rebind_setRow {id b : Nat} {c cs : Array Value} {t : TypeId} {fr : Nat × Nat} {o : AObj} {l : Loc} (ho : st.heap id = some o) (hw : o.wr = true) (hl : ρ id = some l) (hb : l.blk = some b) : Rebind st w (w.setRow b cs) ρ id b :=
  ⟨rfl, rfl, rfl, by simp, fun k hk _ => setRow_other w b k cs hk, .inr ⟨o, l, ho, hw, hl, hb⟩⟩
def byteRows (s : ByteArray) : List (List D) := s.data.toList.map fun b => [.v (.int .u8 (b.toNat : Int))]
def isIntT : TypeDesc → Option IntKind
  | .int k => some k
  | _ => none
def srcD (tt : TypeId → Option TI) (st : St) (X : TypeId) (ei : TI) (d : D) (fl : Bool := true) : Option (Prop × List (List D)) :=
  match tt X with
  | none => none
  | some xi => match isIntT xi.und with
    | some _ => match d with
      | .v (.int _ n) => some (0 ≤ n ∧ n.toNat * ei.bytes ≤ 140737488355328 ∧ n ≤ 9223372036854775807, List.replicate n.toNat (ei.zero.cells.toList.map ofAtom))
      | _ => none
    | none => match d with
      | .sl _ rows => some (True, rows)
      | .own id off len => match st.heap id with
        | some o => some (off + len ≤ o.rows.length ∧ (if fl = true then o.flat = true else True), (o.rows.drop off).take len)
        | none => none
      | .v (.string s) => some (ei.sz = 1, byteRows s)
      | _ => none
structure Source (P : Program) (w : World) (X e : TypeId) (i : TypeInfo) (z : Array Value) (x : Value) (n : Nat) (cs : List Value) : Prop where
  und : ∃ d, P.underlying X = some d ∧ (((∀ k, d ≠ .int k) ∧ (∀ w', (Builtin.lenOf x).run P w' = .ok n w') ∧ (∀ w' m, w'.heap = w.heap → m ≤ n → (Builtin.firstCells i.size m x).run P w' = .ok (cs.take (m * i.size)).toArray w')) ∨
    ((∃ k, d = .int k) ∧ (∃ kk, x = .int kk n) ∧ n * i.bytes ≤ 140737488355328 ∧ (n : Int) ≤ 9223372036854775807 ∧ cs.toArray = Builtin.zeroCells z n ∧ z.size = i.size))
theorem laid_flat {o : AObj} {l : Loc} (hf : o.flat = true) (h : LaidObj I ρ w o l) : LaidObj I noLocs w o l := by
  refine ⟨h.sz, h.pos, h.rows, h.cap, ?_⟩
  rcases h.mem with h0 | ⟨b, c, e, lo, hi, h1, h2, h3, h4, h5, h6, hone, h7⟩
  · exact .inl h0
  · refine .inr ⟨b, c, e, lo, hi, h1, h2, h3, h4, h5, h6, hone, fun i j row d x q1 q2 q3 => ?_⟩
    have := h7 i j row d x q1 q2 q3
    simpa [hf] using this
theorem Rows.source {rows : List (List D)} {b o sz : Nat} {ρ' : Locs} (h : Rows I ρ' w rows sz b o) : ∃ cs : List Value, cs.length = rows.length * sz ∧ (∀ v ∈ cs, v.oneCell' = true) ∧ FlatRep I ρ' sz rows cs.toArray ∧
    ∀ w' m len cap, w'.heap = w.heap → m ≤ rows.length → (Builtin.firstCells sz m (.slice (some ⟨b, o, none⟩) len cap)).run P w' = .ok (cs.take (m * sz)).toArray w' := by
  obtain ⟨cs, c1, c2, c3⟩ := h.load
  refine ⟨cs, c1, fun v hv => ?_, fun i j row d x h1 h2 h3 => c3 i j row d x h1 h2 (by simpa using h3), fun w' m len cap hw hm => ?_⟩
  · obtain ⟨j, hj⟩ := List.getElem?_of_mem hv
    exact (c2 j v hj).2
  · have hle : m * sz ≤ rows.length * sz := Nat.mul_le_mul_right _ hm
    refine run_firstCells_some (P := P) w' sz m ⟨b, o, none⟩ len cap (cs.take (m * sz)) (by simp; omega) fun j v hv => ?_
    rw [List.getElem?_take] at hv
    split at hv
    · have := (c2 j v hv).1
      rw [World.cell?_of_block (w := w) (w' := w') (by rw [hw])]
      exact this
    · cases hv
theorem firstCells_zero {sz : Nat} {ad : Option Addr} {len cap : Nat} : (Builtin.firstCells sz 0 (.slice ad len cap)).run P w = .ok #[] w := by
  cases ad <;> simp [Builtin.firstCells, loadCells, loadCellsFrom]
theorem source_of_rows {X e : TypeId} {i : TypeInfo} {z : Array Value} {xi : TI} (hX : P.underlying X = some xi.und) (hn : isIntT xi.und = none) {ad : Option Addr} {cap : Nat} {rows : List (List D)} {ρ' : Locs}
    (hr : rows ≠ [] → ∃ b o sz, ad = some ⟨b, o, none⟩ ∧ Rows I ρ' w rows sz b o) (hlen : ∀ row ∈ rows, row.length = i.size) :
    ∃ cs, Source P w X e i z (.slice ad rows.length cap) rows.length cs ∧ cs.length = rows.length * i.size ∧ (∀ v ∈ cs, v.oneCell' = true) ∧ FlatRep I ρ' i.size rows cs.toArray := by
  have hni : ∀ k, xi.und ≠ .int k := by intro k hk; rw [hk] at hn; cases hn
  by_cases hne : rows = []
  · subst hne
    refine ⟨[], ⟨_, hX, .inl ⟨hni, fun w' => by simp [Builtin.lenOf], fun w' m hw hm => ?_⟩⟩, by simp, by simp, fun i j row d x h1 => by simp at h1⟩
    simp at hm; subst hm
    simpa using firstCells_zero
  · obtain ⟨b, o, sz, rfl, hrs⟩ := hr hne
    have hsz : sz = i.size := by
      cases rows with
      | nil => exact absurd rfl hne
      | cons r rs => rw [← hrs.len r (by simp), hlen r (by simp)]
    subst hsz
    obtain ⟨cs, c1, c2, c3, c4⟩ := hrs.source (P := P)
    exact ⟨cs, ⟨_, hX, .inl ⟨hni, fun w' => by simp [Builtin.lenOf], fun w' m hw hm => c4 w' m _ _ hw hm⟩⟩, c1, c2, c3⟩
theorem zeroCells_made (z : Array Value) (n sz : Nat) (hz : z.size = sz) : Builtin.zeroCells z n = madeCells z (n * sz) := by
  subst hz; rfl
theorem RB.source (ht : TTok P tt) (h : RB E st a w ρ I) {X e : TypeId} {ei : TI} (he : tt e = some ei) {i : TypeInfo} (hi : P.info? e = some i) {d : D} {p : Prop} {rows : List (List D)} {fl : Bool} (hs : srcD tt st X ei d fl = some (p, rows)) (hp : p)
    (hrl : ∀ row ∈ rows, row.length = ei.sz) (hpos : 0 < ei.sz) {x : Value} (hx : Rep I ρ d x) :
    ∃ cs, Source P w X e i ei.zero.cells x rows.length cs ∧ cs.length = rows.length * ei.sz ∧ (∀ v ∈ cs, v.oneCell' = true) ∧ FlatRep I (if fl = true then noLocs else ρ) ei.sz rows cs.toArray := by
  have weak : ∀ {r : List (List D)} {c : Array Value}, FlatRep I noLocs ei.sz r c → FlatRep I (if fl = true then noLocs else ρ) ei.sz r c := fun hf i j row d x q1 q2 q3 => noLocs_kill (hf i j row d x q1 q2 q3)
  obtain ⟨info, t1, t2, t3, t4, t5, t6, t7, -⟩ := ht e ei he
  rw [hi] at t1; cases t1
  unfold srcD at hs
  cases hX : tt X with
  | none => simp [hX] at hs
  | some xi =>
    have hXu := und_of ht hX
    simp only [hX] at hs
    cases hint : isIntT xi.und with
    | some k =>
      simp only [hint] at hs
      split at hs
      · rename_i kk n
        simp only [Option.some.injEq, Prod.mk.injEq] at hs
        obtain ⟨rfl, rfl⟩ := hs
        cases rep_v_inv hx
        obtain ⟨p1, p2, p3⟩ := hp
        obtain ⟨m, rfl⟩ := Int.eq_ofNat_of_zero_le p1
        simp only [Int.toNat_natCast] at *
        have hk : xi.und = .int k := by
          cases hu : xi.und <;> simp [hu, isIntT] at hint
          rw [hint]
        refine ⟨(Builtin.zeroCells ei.zero.cells m).toList, ⟨_, hXu, .inr ⟨⟨k, hk⟩, ⟨kk, by simp⟩, by simpa [t4] using p2, by simpa using p3, by simp, by rw [t3]; exact t6⟩⟩, by simp [size_zeroCells, t6], ?_, ?_⟩
        · intro v hv
          obtain ⟨j, hj⟩ := List.getElem?_of_mem hv
          rw [zeroCells_made _ _ _ t6] at hj
          exact one_made (by omega) t7 j v (by simpa using hj)
        · have := flatRep_zero (I := I) (n := m) t6 hpos
          rw [← zeroCells_made _ _ _ t6] at this
          exact weak (by simpa using this)
      · cases hs
    | none =>
      simp only [hint] at hs
      split at hs
      · rename_i full rs
        simp only [Option.some.injEq, Prod.mk.injEq] at hs
        obtain ⟨rfl, rfl⟩ := hs
        obtain ⟨ad, cap, rfl, _, _, hr⟩ := rows_of_sl (ρ := noLocs) h.mem.imm (hx.locs (p := fun _ => false) (by simp) rfl)
        obtain ⟨cs, q1, q2, q3, q4⟩ := source_of_rows (P := P) (w := w) (e := e) (i := i) (z := ei.zero.cells) (cap := cap) hXu hint hr (by rw [t3]; exact hrl)
        rw [t3] at q2 q4
        exact ⟨cs, q1, q2, q3, weak q4⟩
      · rename_i id off len
        cases ho : st.heap id with
        | none => simp [ho] at hs
        | some o =>
          simp only [ho, Option.some.injEq, Prod.mk.injEq] at hs
          obtain ⟨rfl, rfl⟩ := hs
          obtain ⟨p1, p2⟩ := hp
          obtain ⟨l, hl, hlaid⟩ := h.mem.laid id o ho
          cases hx with
          | own _ _ _ _ l' ad hl' hcap ha =>
            rw [hl] at hl'; cases hl'
            have hlen : ((o.rows.drop off).take len).length = len := by simp; omega
            have hr : (o.rows.drop off).take len ≠ [] → ∃ b o' sz, ad = some ⟨b, o', none⟩ ∧ Rows I (if fl = true then noLocs else ρ) w ((o.rows.drop off).take len) sz b o' := by
              intro hne
              have hne' : o.rows ≠ [] := by rintro e; simp [e] at hne
              have hlaid' : LaidObj I (if fl = true then noLocs else ρ) w o l := by
                cases fl with
                | true => exact laid_flat (by simpa using p2) hlaid
                | false => simpa using hlaid
              obtain ⟨b, hb, hrows⟩ := rows_of_obj hlaid' hne'
              have hlen0 : 0 < len := by rcases Nat.eq_zero_or_pos len with e | e; · subst e; simp at hne
                                         · exact e
              rcases ha with ha | ⟨b', hb', rfl⟩
              · omega
              · rw [hb] at hb'; cases hb'
                refine ⟨b, _, o.sz, rfl, ?_⟩
                have := hrows.sub off len
                rwa [hlaid.sz]
            obtain ⟨cs, q1, q2, q3, q4⟩ := source_of_rows (P := P) (w := w) (e := e) (i := i) (z := ei.zero.cells) (cap := l.cap - off) hXu hint hr (by rw [t3]; exact hrl)
            rw [t3] at q2 q4
            rw [hlen] at q1
            refine ⟨cs, by rw [hlen]; exact q1, q2, q3, q4⟩
      · rename_i s
        simp only [Option.some.injEq, Prod.mk.injEq] at hs
        obtain ⟨rfl, rfl⟩ := hs
        cases rep_v_inv hx
        have hni : ∀ k, xi.und ≠ .int k := by intro k hk; rw [hk] at hint; cases hint
        have hls : (byteRows s).length = s.size := by simp [byteRows]
        refine ⟨s.data.toList.map fun b => .int .u8 b.toNat, ⟨_, hXu, .inl ⟨hni, fun w' => by simp [Builtin.lenOf, hls], fun w' m hw hm => ?_⟩⟩, by rw [hp, hls]; simp, ?_, ?_⟩
        · have hm' : m ≤ s.size := by omega
          simp only [Builtin.firstCells, Sem.run_pure]
          congr 1
          rw [t3, hp, Nat.mul_one]
          apply Array.ext'
          simp [ByteArray.data_extract, Array.toList_extract, List.extract]
        · intro v hv
          simp only [List.mem_map] at hv
          obtain ⟨b, _, rfl⟩ := hv
          rfl
        · refine weak fun i j row d x h1 h2 h3 => ?_
          simp only [byteRows, List.getElem?_map] at h1
          cases hb : s.data.toList[i]? with
          | none => simp [hb] at h1
          | some b =>
            simp only [hb, Option.map_some, Option.some.injEq] at h1
            subst h1
            cases j with
            | succ j => simp at h2
            | zero =>
              simp only [List.getElem?_cons_zero, Option.some.injEq] at h2
              subst h2
              rw [hp] at h3
              simp only [Nat.mul_one, Nat.add_zero, List.getElem?_toArray, List.getElem?_map, hb, Option.map_some, Option.some.injEq] at h3
              subst h3
              exact .v _ _
      · cases hs
def storeAfter (base : Option Addr) (k : Nat) (cs : List Value) : Sem Unit := match base with
  | some ad => storeCells (ad.add k) cs
  | none => pure ()
theorem run_append_room2 {t X ty e : TypeId} {i : TypeInfo} {z : Value} {base : Option Addr} {sLen sCap n : Nat} {x : Value} {cs : List Value} {w' : World} (ht : P.underlying t = some (.slice e)) (hi : P.info? e = some i) (hz : i.zero = some z)
    (hs : Source P w X e i z.cells x n cs) (hpos : 0 < i.size) (hl : cs.length = n * i.size) (hroom : sLen + n ≤ sCap) (hst : (storeAfter base (sLen * i.size) cs).run P w = .ok () w') :
    (Builtin.append_ #[t, X] ty #[.slice base sLen sCap, x]).run P w = .ok (.slice base (sLen + n) sCap) w' := by
  obtain ⟨d, hX, hA | ⟨⟨k, rfl⟩, ⟨kk, rfl⟩, hb1, hb2, hcs, hzs⟩⟩ := hs.und
  · obtain ⟨hni, hlen, hfc⟩ := hA
    have hm : (match (generalizing := false) d with | .int _ => true | _ => false) = false := by
      cases d <;> first | rfl | (exact absurd rfl (hni _))
    have hfc' := hfc w n rfl (Nat.le_refl _)
    rw [List.take_of_length_le (by omega)] at hfc'
    cases base with
    | none =>
      simp only [storeAfter, Sem.run_pure, Result.ok.injEq, true_and] at hst
      subst hst
      simp [Builtin.append_, run_underlying ht, run_underlying hX, sizeOf, typeInfo, hi, hm, hlen, hroom, hfc']
    | some ad =>
      simp only [storeAfter] at hst
      simp [Builtin.append_, run_underlying ht, run_underlying hX, sizeOf, typeInfo, hi, hm, hlen, hroom, hfc', hst]
  · have wl : IntKind.i64.wrap (n : Int) = n := by rw [IntKind.wrap_i64]; omega
    have n1 : ¬ ((n : Int) < 0) := by omega
    have n2 : ¬ (281474976710656 < (n : Int) * (i.bytes : Int)) := by
      have : ((n * i.bytes : Nat) : Int) ≤ 140737488355328 := Int.ofNat_le.2 hb1
      rw [Int.natCast_mul] at this
      omega
    by_cases hz0 : n * i.size = 0
    · have hn0 : n = 0 := by
        rcases Nat.mul_eq_zero.1 hz0 with q | q
        · exact q
        · omega
      subst hn0
      have hcs0 : cs = [] := by cases cs with
        | nil => rfl
        | cons c r => simp at hl
      subst hcs0
      have hst0 : w' = w := by
        cases base <;> simp [storeAfter, storeCells] at hst <;> exact hst.symm
      subst hst0
      have w0 : IntKind.i64.wrap 0 = 0 := by decide
      have hroom' : sLen ≤ sCap := by omega
      cases base <;> simp [Builtin.append_, run_underlying ht, run_underlying hX, sizeOf, typeInfo, hi, asInt, asIntOf, w0, hroom', storeCells]
    · cases base with
      | none =>
        simp only [storeAfter, Sem.run_pure, Result.ok.injEq, true_and] at hst
        subst hst
        simp [Builtin.append_, run_underlying ht, run_underlying hX, sizeOf, typeInfo, hi, asInt, asIntOf, wl, n1, n2, hroom, hz0, zeroValue, hz]
      | some ad =>
        simp only [storeAfter] at hst
        have hcs' : (Builtin.zeroCells z.cells n).toList = cs := by rw [← hcs]
        simp [Builtin.append_, run_underlying ht, run_underlying hX, sizeOf, typeInfo, hi, asInt, asIntOf, wl, n1, n2, hroom, hz0, zeroValue, hz, hcs', hst]
theorem run_append_grow2 {t X ty e : TypeId} {i : TypeInfo} {z : Value} {base : Option Addr} {sLen sCap n : Nat} {x : Value} {cs olds : List Value} (ht : P.underlying t = some (.slice e)) (hi : P.info? e = some i) (hz : i.zero = some z)
    (hs : Source P w X e i z.cells x n cs) (hpos : 0 < i.size) (hl : cs.length = n * i.size) (hroom : ¬ sLen + n ≤ sCap) (hold : ∀ w', w'.heap = w.heap → (Builtin.firstCells i.size sLen (.slice base sLen sCap)).run P w' = .ok olds.toArray w')
    (h63 : sLen + n ≤ 9223372036854775807) (hbytes : (sLen + n) * i.bytes ≤ 140737488355328) :
    (Builtin.append_ #[t, X] ty #[.slice base sLen sCap, x]).run P w = .ok (.slice (some ⟨w.heap.size, 0, none⟩) (sLen + n) (grownCap w (sLen + n) sCap e))
      (w.drew.alloc (.cells (olds.toArray ++ cs.toArray ++ Builtin.zeroCells z.cells (grownCap w (sLen + n) sCap e - (sLen + n))) e)) := by
  have h48 := growslice_fits (need := sLen + n) (old := sCap) (bytes := i.bytes) (by omega) hbytes
  have n3 : ¬ (281474976710656 < Builtin.nextslicecap (sLen + n) sCap * i.bytes) := by omega
  have n4 : ¬ (9223372036854775807 < ((sLen : Int) + (n : Int))) := by omega
  have hold' := hold w.drew rfl
  obtain ⟨d, hX, hA | ⟨⟨k, rfl⟩, ⟨kk, rfl⟩, hb1, hb2, hcs, hzs⟩⟩ := hs.und
  · obtain ⟨hni, hlen, hfc⟩ := hA
    have hm : (match (generalizing := false) d with | .int _ => true | _ => false) = false := by
      cases d <;> first | rfl | (exact absurd rfl (hni _))
    have hfc' := hfc w.drew n rfl (Nat.le_refl _)
    rw [List.take_of_length_le (by omega)] at hfc'
    simp [Builtin.append_, run_underlying ht, run_underlying hX, sizeOf, typeInfo, hi, hm, hlen, hroom, hfc', n3, n4, Question.forced, hold', zeroValue, hz, newRow, grownCap]
    simp only [← List.append_toArray, Array.append_assoc]
  · have wl : IntKind.i64.wrap (n : Int) = n := by rw [IntKind.wrap_i64]; omega
    have n1 : ¬ ((n : Int) < 0) := by omega
    have n2 : ¬ (281474976710656 < (n : Int) * (i.bytes : Int)) := by
      have : ((n * i.bytes : Nat) : Int) ≤ 140737488355328 := Int.ofNat_le.2 hb1
      rw [Int.natCast_mul] at this
      omega
    by_cases hz0 : n * i.size = 0
    · have hn0 : n = 0 := by
        rcases Nat.mul_eq_zero.1 hz0 with q | q
        · exact q
        · omega
      subst hn0
      have hcs0 : cs = [] := by cases cs with
        | nil => rfl
        | cons c r => simp at hl
      subst hcs0
      have w0 : IntKind.i64.wrap 0 = 0 := by decide
      have hroom' : ¬ sLen ≤ sCap := by omega
      simp only [Nat.add_zero, Int.natCast_zero, Int.add_zero] at n3 n4 ⊢
      simp [Builtin.append_, run_underlying ht, run_underlying hX, sizeOf, typeInfo, hi, asInt, asIntOf, w0, hroom', n3, n4, Question.forced, hold', zeroValue, hz, newRow, grownCap]
    · simp [Builtin.append_, run_underlying ht, run_underlying hX, sizeOf, typeInfo, hi, asInt, asIntOf, wl, n1, n2, hroom, hz0, n3, n4, Question.forced, hold', zeroValue, hz, newRow, grownCap, hcs]
end
end Go.Ab
namespace Go.Ab
set_option linter.unusedSimpArgs false
set_option linter.unusedVariables false
def St.evL (st : St) : List Operand → Option (List D)
  | [] => some []
  | x :: xs => match st.ev x, st.evL xs with
    | some d, some ds => some (d :: ds)
    | _, _ => none
def St.evO (st : St) : Option Operand → Option (Option D)
  | none => some none
  | some x => match st.ev x with
    | some d => some (some d)
    | none => none
def zrow (ti : TI) : List D := ti.zero.cells.toList.map ofAtom
def valExtract (k : Nat) : D → Option (Prop × D)
  | .tup ds => some (k < ds.length, ds.getD k .junk)
  | _ => none
def placesL (tt : TypeId → Option TI) : List Field → Option (List (Nat × Nat))
  | [] => some []
  | f :: fs => match tt f.type, placesL tt fs with
    | some i, some r => some ((f.offset, i.sz) :: r)
    | _, _ => none
def valBuild (tt : TypeId → Option TI) (T : TypeId) (idx : List Nat) (ds : List D) : Option (Prop × D) :=
  match tt T with
  | some ti => match ti.und with
    | .struct fields => match placesL tt fields.toList with
      | some pl => match fillD (fun i => pl[i]?) (zrow ti) (idx.zip ds) with
        | some (p, cs) => some (p, .agg cs)
        | none => none
      | none => none
    | .array _ e => match tt e with
      | some ei => match fillD (fun i => some (i * ei.sz, ei.sz)) (zrow ti) (idx.zip ds) with
        | some (p, cs) => some (p, .agg cs)
        | none => none
      | none => none
    | _ => none
  | none => none
def val (tt : TypeId → Option TI) (st : St) : Op → Option (Prop × D)
  | .move x => match st.ev x with
    | some d => some (True, d)
    | none => none
  | .assign x => match st.ev x with
    | some d => some (True, d)
    | none => none
  | .pick c a b => match st.ev c with
    | some (.v (.bool true)) => match st.ev a with
      | some d => some (True, d)
      | none => none
    | some (.v (.bool false)) => match st.ev b with
      | some d => some (True, d)
      | none => none
    | _ => none
  | .load T x => match st.ev x with
    | some d => valLoad tt st T d
    | none => none
  | .nilCheck x => match st.ev x with
    | some (.ptr id i k) => some (True, .ptr id i k)
    | some (.ref r k) => some (True, .ref r k)
    | _ => none
  | .binOp op T x y _ => match st.ev x, st.ev y with
    | some dx, some dy => dbin tt op T dx dy
    | _, _ => none
  | .unOp op _ x => match st.ev x with
    | some d => sun op d
    | none => none
  | .convert src dst x => match st.ev x with
    | some d => valConvert tt st src dst d
    | none => none
  | .slice T x lo hi mx => match st.ev x, st.evO lo, st.evO hi, st.evO mx with
    | some d, some l, some h, some m => valSlice tt st T d l h m
    | _, _, _, _ => none
  | .fieldAddr S x f => match st.ev x with
    | some d => valFieldAddr tt S f d
    | none => none
  | .field S x f => match st.ev x with
    | some d => valField tt S f d
    | none => none
  | .indexAddr T x i => match st.ev x, st.ev i with
    | some d, some di => valIndexAddr tt st T d di
    | _, _ => none
  | .index T x i => match st.ev x, st.ev i with
    | some d, some di => valIndex tt T d di
    | _, _ => none
  | .extract t k => match st.ev t with
    | some d => valExtract k d
    | none => none
  | .build T parts => match st.evL (parts.toList.map (·.2)) with
    | some ds => valBuild tt T (parts.toList.map (·.1)) ds
    | none => none
  | .makeFunc f first caps => match st.evL first.toList, st.evL caps.toList with
    | some d1, some ds => some (True, .fn f d1.length (d1 ++ ds))
    | _, _ => none
  | .call c => match c.callee, c.args.toList, c.argTypes.toList with
    | .builtin .len, [x], [T] => match st.ev x with
      | some d => valLen tt T d
      | none => none
    | .builtin .min, xs, _ => match st.evL xs with
      | some ds => valMin ds
      | none => none
    | .builtin .max, xs, _ => match st.evL xs with
      | some ds => valMax ds
      | none => none
    | _, _, _ => none
  | _ => none
section
variable {P : Program} {E : Ent} {st : St} {a : Act} {w : World} {ρ : Locs} {I : Imm} {tt : TypeId → Option TI}
theorem RB.evL (h : RB E st a w ρ I) : ∀ {xs : List Operand} {ds : List D}, st.evL xs = some ds → RepL I ρ ds (xs.map a.eval)
  | [], ds, he => by simp only [St.evL, Option.some.injEq] at he; subst he; trivial
  | x :: xs, ds, he => by
    simp only [St.evL] at he
    split at he
    · rename_i d ds' e1 e2
      simp only [Option.some.injEq] at he
      subst he
      exact ⟨h.ev e1, h.evL e2⟩
    · cases he
theorem RB.evO (h : RB E st a w ρ I) {x : Option Operand} {d : Option D} (he : st.evO x = some d) : RepO I ρ d (x.map a.eval) := by
  cases x with
  | none => simp only [St.evO, Option.some.injEq] at he; subst he; trivial
  | some x =>
    simp only [St.evO] at he
    split at he
    · rename_i d' e1
      simp only [Option.some.injEq] at he
      subst he
      exact h.ev e1
    · cases he
theorem run_valExtract {k : Nat} {d r : D} {p : Prop} {u : Value} (hv : valExtract k d = some (p, r)) (hp : p) (hu : Rep I ρ d u) : ∃ z, (Instr.extract u k).run P w = .ok z w ∧ Rep I ρ r z := by
  unfold valExtract at hv
  split at hv
  · simp only [Option.some.injEq, Prod.mk.injEq] at hv
    obtain ⟨rfl, rfl⟩ := hv
    cases hu with
    | tup _ cs vs hl hh =>
      have hlt : k < vs.size := by omega
      refine ⟨vs[k], by simp [Instr.extract, Array.getElem?_eq_getElem hlt], ?_⟩
      simpa [List.getD, List.getElem?_eq_getElem hp] using hh k _ _ (List.getElem?_eq_getElem hp) (Array.getElem?_eq_getElem hlt)
  · cases hv
theorem run_places (ht : TTok P tt) : ∀ {fs : List Field} {pl : List (Nat × Nat)}, placesL tt fs = some pl → (fs.mapM fun f => (do pure (f.offset, ← sizeOf f.type) : Sem (Nat × Nat))).run P w = .ok pl w
  | [], pl, h => by simp only [placesL, Option.some.injEq] at h; subst h; rfl
  | f :: fs, pl, h => by
    simp only [placesL] at h
    split at h
    · rename_i i r e1 e2
      simp only [Option.some.injEq] at h
      subst h
      have ih := run_places ht e2
      simp only [List.mapM_cons, Sem.run_bind, run_sizeOf ht e1, Sem.run_pure, Result.andThen_ok] at ih ⊢
      simp only [ih, Result.andThen_ok]
    · cases h
theorem zip_map_fst (ks : List Nat) (ds : List D) (h : ks.length = ds.length) : (ks.zip ds).map (·.1) = ks := by
  induction ks generalizing ds with
  | nil => rfl
  | cons k ks ih => cases ds with
    | nil => simp at h
    | cons d ds => simp at h; simp [ih ds h]
theorem zip_map_snd (ks : List Nat) (ds : List D) (h : ks.length = ds.length) : (ks.zip ds).map (·.2) = ds := by
  induction ks generalizing ds with
  | nil => cases ds <;> simp_all
  | cons k ks ih => cases ds with
    | nil => simp at h
    | cons d ds => simp at h; simp [ih ds h]
theorem repCs_zero (ti : TI) : RepCs I ρ (zrow ti) ti.zero.cells := by
  refine ⟨by simp [zrow], fun i d x h1 h2 => ?_⟩
  simp only [zrow, List.getElem?_map, Array.getElem?_toList, h2, Option.map_some, Option.some.injEq] at h1
  exact h1 ▸ rep_ofAtom _ _ _
theorem zeroValue_run (ht : TTok P tt) {T : TypeId} {ti : TI} (h : tt T = some ti) : (zeroValue T).run P w = .ok ti.zero w := by
  obtain ⟨info, t1, t2, t3, t4, t5, t6, t7, -⟩ := ht T ti h
  simp [zeroValue, typeInfo, t1, t5]
theorem mapM_array_list {α β : Type} (f : α → Sem β) (xs : Array α) (ys : List β) (h : (xs.toList.mapM f).run P w = .ok ys w) : (xs.mapM f).run P w = .ok ys.toArray w := by
  have : xs.mapM f = List.toArray <$> xs.toList.mapM f := by
    exact Array.mapM_eq_mapM_toList
  rw [this]
  simp [h]
theorem run_valBuild (ht : TTok P tt) {T : TypeId} {parts : Array (Nat × Operand)} {ds : List D} {r : D} {p : Prop} (hv : valBuild tt T (parts.toList.map (·.1)) ds = some (p, r)) (hp : p)
    (hu : RepL I ρ ds ((parts.toList.map (·.2)).map a.eval)) : ∃ z, (Instr.build T (parts.map fun (i, x) => (i, a.eval x))).run P w = .ok z w ∧ Rep I ρ r z := by
  have hlen : (parts.toList.map (·.1)).length = ds.length := by have := (RepL.get hu).1; simp at this ⊢; omega
  have hpl : (parts.map fun x : Nat × Operand => (x.1, a.eval x.2)).toList = parts.toList.map fun x => (x.1, a.eval x.2) := by simp
  have e1 : (((parts.toList.map (·.1)).zip ds).map (·.1)) = (parts.toList.map fun x => (x.1, a.eval x.2)).map (·.1) := by rw [zip_map_fst _ _ hlen]; simp
  have e2 : RepL I ρ (((parts.toList.map (·.1)).zip ds).map (·.2)) ((parts.toList.map fun x => (x.1, a.eval x.2)).map (·.2)) := by
    rw [zip_map_snd _ _ hlen]
    have : (parts.toList.map fun x => (x.1, a.eval x.2)).map (·.2) = (parts.toList.map (·.2)).map a.eval := by simp
    rw [this]; exact hu
  unfold valBuild at hv
  split at hv
  · rename_i ti hti
    have hund := und_of ht hti
    have hzv := zeroValue_run (w := w) ht hti
    split at hv
    · rename_i fields hf
      rw [hf] at hund
      split at hv
      · rename_i pl hplc
        split at hv
        · rename_i q cs hfill
          simp only [Option.some.injEq, Prod.mk.injEq] at hv
          obtain ⟨rfl, rfl⟩ := hv
          obtain ⟨vr, v1, v2⟩ := fill_ok _ _ _ _ _ _ hfill hp e1 e2 (repCs_zero ti)
          refine ⟨.agg vr, ?_, .agg _ _ _ v2.1 v2.2⟩
          have hpr := mapM_array_list (P := P) (w := w) (fun f : Field => (do pure (f.offset, ← sizeOf f.type) : Sem (Nat × Nat))) fields pl (run_places ht hplc)
          simp only [Instr.build, Sem.run_bind, hzv, run_underlying hund, Result.andThen_ok, hpr, hpl]
          have e3 : (fun i : Nat => pl.toArray[i]?) = fun i : Nat => pl[i]? := by funext i; simp
          simp [e3, v1]
        · cases hv
      · cases hv
    · rename_i n e hf
      rw [hf] at hund
      split at hv
      · rename_i ei hei
        split at hv
        · rename_i q cs hfill
          simp only [Option.some.injEq, Prod.mk.injEq] at hv
          obtain ⟨rfl, rfl⟩ := hv
          obtain ⟨vr, v1, v2⟩ := fill_ok _ _ _ _ _ _ hfill hp e1 e2 (repCs_zero ti)
          refine ⟨.agg vr, ?_, .agg _ _ _ v2.1 v2.2⟩
          simp only [Instr.build, Sem.run_bind, hzv, run_underlying hund, Result.andThen_ok, run_sizeOf ht hei, hpl]
          simp [v1]
        · cases hv
      · cases hv
    · cases hv
  · cases hv
theorem RB.val (ht : TTok P tt) (h : RB E st a w ρ I) {o : Oper} {d : D} {p : Prop} (hv : Go.Ab.val tt st o.op = some (p, d)) (hp : p) :
    ∃ z, (execOp a.eval o).run P w = .ok (.value z) w ∧ Rep I ρ d z := by
  unfold execOp
  cases ho : o.op <;> simp only [ho, Go.Ab.val] at hv ⊢ <;> try (cases hv; done)
  case move x =>
    split at hv <;> simp only [Option.some.injEq, Prod.mk.injEq, reduceCtorEq] at hv
    obtain ⟨rfl, rfl⟩ := hv
    exact ⟨_, rfl, h.ev ‹_›⟩
  case assign x =>
    split at hv <;> simp only [Option.some.injEq, Prod.mk.injEq, reduceCtorEq] at hv
    obtain ⟨rfl, rfl⟩ := hv
    exact ⟨_, rfl, h.ev ‹_›⟩
  case pick c x y =>
    split at hv
    · rename_i hc
      have e := rep_v_inv (h.ev hc)
      split at hv <;> simp only [Option.some.injEq, Prod.mk.injEq, reduceCtorEq] at hv
      rename_i d' hd'
      obtain ⟨rfl, rfl⟩ := hv
      refine ⟨_, ?_, h.ev hd'⟩
      simp [e, asBool]
    · rename_i hc
      have e := rep_v_inv (h.ev hc)
      split at hv <;> simp only [Option.some.injEq, Prod.mk.injEq, reduceCtorEq] at hv
      rename_i d' hd'
      obtain ⟨rfl, rfl⟩ := hv
      refine ⟨_, ?_, h.ev hd'⟩
      simp [e, asBool]
    · cases hv
  case load T x =>
    split at hv
    · rename_i dx hx
      obtain ⟨z, z1, z2⟩ := run_valLoad ht h hv hp (h.ev hx)
      exact ⟨z, by simp [z1], z2⟩
    · cases hv
  case nilCheck x =>
    split at hv
    · rename_i id i k hx
      simp only [Option.some.injEq, Prod.mk.injEq] at hv
      obtain ⟨rfl, rfl⟩ := hv
      have := h.ev hx
      refine ⟨_, ?_, this⟩
      cases hu : a.eval x <;> rw [hu] at this <;> first | (cases this; done) | skip
      cases this; rfl
    · rename_i r k hx
      simp only [Option.some.injEq, Prod.mk.injEq] at hv
      obtain ⟨rfl, rfl⟩ := hv
      have := h.ev hx
      refine ⟨_, ?_, this⟩
      cases hu : a.eval x <;> rw [hu] at this <;> first | (cases this; done) | skip
      cases this; rfl
    · cases hv
  case binOp op T x y yt =>
    split at hv
    · rename_i dx dy hx hy
      obtain ⟨z, z1, z2⟩ := run_dbin (P := P) (w := w) ht (xo := x) (yo := y) hv hp (h.ev hx) (h.ev hy)
      refine ⟨z, ?_, z2⟩
      rw [Sem.run_bind, z1]
      rfl
    · cases hv
  case unOp op T x =>
    split at hv
    · rename_i dx hx
      obtain ⟨z, z1, z2⟩ := run_sun (P := P) (w := w) hv (h.ev hx)
      exact ⟨z, by simp [z1], z2⟩
    · cases hv
  case convert src dst x =>
    split at hv
    · rename_i dx hx
      obtain ⟨z, z1, z2⟩ := run_valConvert ht h hv hp (h.ev hx)
      exact ⟨z, by simp [z1], z2⟩
    · cases hv
  case slice T x lo hi mx =>
    split at hv
    · rename_i dx l hh m hx hl hhh hm
      obtain ⟨z, z1, z2⟩ := run_valSlice ht h hv hp (h.ev hx) (h.evO hl) (h.evO hhh) (h.evO hm)
      exact ⟨z, by simp [z1], z2⟩
    · cases hv
  case fieldAddr S x f =>
    split at hv
    · rename_i dx hx
      obtain ⟨z, z1, z2⟩ := run_valFieldAddr (P := P) (w := w) ht hv hp (h.ev hx)
      exact ⟨z, by simp [z1], z2⟩
    · cases hv
  case field S x f =>
    split at hv
    · rename_i dx hx
      obtain ⟨z, z1, z2⟩ := run_valField (P := P) (w := w) ht hv hp (h.ev hx)
      exact ⟨z, by simp [z1], z2⟩
    · cases hv
  case indexAddr T x i =>
    split at hv
    · rename_i dx dy hx hy
      obtain ⟨z, z1, z2⟩ := run_valIndexAddr ht h hv hp (h.ev hx) (h.ev hy)
      exact ⟨z, by simp [z1], z2⟩
    · cases hv
  case index T x i =>
    split at hv
    · rename_i dx dy hx hy
      obtain ⟨z, z1, z2⟩ := run_valIndex (P := P) (w := w) ht hv hp (h.ev hx) (h.ev hy)
      exact ⟨z, by simp [z1], z2⟩
    · cases hv
  case extract t k =>
    split at hv
    · rename_i dx hx
      obtain ⟨z, z1, z2⟩ := run_valExtract (P := P) (w := w) hv hp (h.ev hx)
      exact ⟨z, by simp [z1], z2⟩
    · cases hv
  case build T parts =>
    split at hv
    · rename_i ds hds
      obtain ⟨z, z1, z2⟩ := run_valBuild (P := P) (w := w) ht hv hp (h.evL hds)
      exact ⟨z, by simp [z1], z2⟩
    · cases hv
  case makeFunc f first caps =>
    split at hv
    · rename_i d1 ds hfirst hds
      simp only [Option.some.injEq, Prod.mk.injEq] at hv
      obtain ⟨rfl, rfl⟩ := hv
      obtain ⟨r1, r2⟩ := RepL.get (h.evL hfirst)
      obtain ⟨q1, q2⟩ := RepL.get (h.evL hds)
      simp only [List.length_map, Array.length_toList] at q1 r1
      refine ⟨.func f (first.map a.eval) (caps.map a.eval), by simp [Instr.makeFunc], .fn _ _ _ _ _ _ (by simp; omega) (by simp; omega) fun i d x h1 h2 => ?_⟩
      rw [List.getElem?_append] at h1
      rw [Array.getElem?_append] at h2
      split at h1
      · rename_i hlt
        rw [if_pos (by simp; omega)] at h2
        exact r2 i d x h1 (by simpa using h2)
      · rename_i hlt
        rw [if_neg (by simp; omega)] at h2
        refine q2 (i - d1.length) d x h1 ?_
        rw [r1]
        simpa using h2
    · cases hv
  case call c =>
    obtain ⟨callee, args, argTypes⟩ := c
    simp only at hv ⊢
    split at hv
    · rename_i x T ha hT
      have ha' : args = #[x] := by apply Array.ext'; exact ha
      have hT' : argTypes = #[T] := by apply Array.ext'; exact hT
      subst ha' hT'
      split at hv
      · rename_i dx hx
        obtain ⟨z, z1, z2⟩ := run_valLen (P := P) (w := w) (ty := o.type) ht h.mem.imm hv (h.ev hx)
        exact ⟨z, by simp [resolve, invoke, builtin, z1], z2⟩
      · cases hv
    · split at hv
      · rename_i ds hds
        obtain ⟨z, z1, z2⟩ := run_valMin (P := P) (w := w) (tys := argTypes) (ty := o.type) hv (h.evL hds)
        refine ⟨z, ?_, z2⟩
        have e : (args.toList.map a.eval).toArray = args.map a.eval := by apply Array.ext'; simp
        rw [e] at z1
        simp [resolve, invoke, builtin, z1]
      · cases hv
    · split at hv
      · rename_i ds hds
        obtain ⟨z, z1, z2⟩ := run_valMax (P := P) (w := w) (tys := argTypes) (ty := o.type) hv (h.evL hds)
        refine ⟨z, ?_, z2⟩
        have e : (args.toList.map a.eval).toArray = args.map a.eval := by apply Array.ext'; simp
        rw [e] at z1
        simp [resolve, invoke, builtin, z1]
      · cases hv
    · cases hv
end
end Go.Ab
namespace Go.Ab
set_option linter.unusedSimpArgs false
set_option linter.unusedVariables false
def atoms (cs : List D) : Prop := ∀ c ∈ cs, c.atom = true
theorem atoms_nil : atoms [] = True := by simp [atoms]
theorem atoms_cons (c : D) (cs : List D) : atoms (c :: cs) = (c.atom = true ∧ atoms cs) := by simp [atoms]
theorem atom_v (x : Value) : (D.v x).atom = x.oneCell' := rfl
theorem atom_sl (f : Bool) (r : List (List D)) : (D.sl f r).atom = true := rfl
theorem atom_ref (r : List D) (k : Nat) : (D.ref r k).atom = true := rfl
theorem atom_own (a b c : Nat) : (D.own a b c).atom = true := rfl
theorem atom_ptr (a b c : Nat) : (D.ptr a b c).atom = true := rfl
theorem atom_fn (f : Fn) (n : Nat) (c : List D) : (D.fn f n c).atom = true := rfl
theorem good_agg (cs : List D) : (D.agg cs).good = true := rfl
theorem good_v (x : Value) : (D.v x).good = x.oneCell' := rfl
theorem good_sl (f : Bool) (r : List (List D)) : (D.sl f r).good = true := rfl
theorem good_ref (r : List D) (k : Nat) : (D.ref r k).good = true := rfl
theorem good_own (a b c : Nat) : (D.own a b c).good = true := rfl
theorem good_ptr (a b c : Nat) : (D.ptr a b c).good = true := rfl
theorem good_fn (f : Fn) (n : Nat) (c : List D) : (D.fn f n c).good = true := rfl
theorem fillRows_cons (sz : Nat) (rows : List (List D)) (i : Nat) (d : D) (rest : List (Nat × D)) : fillRows sz rows ((i, d) :: rest) =
    ((d.good = true ∧ d.cells.length = sz ∧ i < rows.length ∧ atoms d.cells) ∧ (fillRows sz (rows.set i d.cells) rest).1, (fillRows sz (rows.set i d.cells) rest).2) := rfl
theorem fillRows_nil (sz : Nat) (rows : List (List D)) : fillRows sz rows [] = (True, rows) := rfl
def hopAlloc (tt : TypeId → Option TI) (id : Nat) (st : St) (T : TypeId) : Option (Prop × St × D) :=
  match tt T with
  | some ti => some (0 < ti.sz, st.bind id { sz := ti.sz, rows := [zrow ti], flat := false }, .ptr id 0 0)
  | none => none
def hopBox (tt : TypeId → Option TI) (id : Nat) (st : St) (T : TypeId) (d : D) : Option (Prop × St × D) :=
  match tt T with
  | some ti => some (0 < ti.sz ∧ d.good = true ∧ d.cells.length = ti.sz ∧ atoms d.cells, st.bind id { sz := ti.sz, rows := [d.cells], flat := false }, .ptr id 0 0)
  | none => none
def hopBuildSlice (tt : TypeId → Option TI) (id : Nat) (st : St) (T : TypeId) (len : Nat) (idx : List Nat) (ds : List D) : Option (Prop × St × D) :=
  match (tt T).map TI.und with
  | some (.slice e) => match tt e, (if id < 50000000 then purL (pur st.heap 4) ds else some ([], True, ds)) with
    | some ei, some (ids, p, ds') => some (0 < ei.sz ∧ len * ei.sz ≤ 16777216 ∧ p ∧ idx.length = ds'.length ∧ (fillRows ei.sz (List.replicate len (zrow ei)) (idx.zip ds')).1,
        (st.freeze ids).bind id { sz := ei.sz, rows := (fillRows ei.sz (List.replicate len (zrow ei)) (idx.zip ds')).2, flat := decide (id < 50000000) }, .own id 0 len)
    | _, _ => none
  | _ => none
def hopMakeSlice (tt : TypeId → Option TI) (id : Nat) (st : St) (T : TypeId) : D → D → Option (Prop × St × D)
  | .v (.int _ l), .v (.int _ c) => match (tt T).map TI.und with
    | some (.slice e) => match tt e with
      | some ei => some (0 < ei.sz ∧ 0 ≤ l ∧ l ≤ c ∧ (ei.bytes : Int) * c ≤ 281474976710656 ∧ c ≤ 9223372036854775807, st.bind id { sz := ei.sz, rows := List.replicate l.toNat (zrow ei) }, .own id 0 l.toNat)
      | none => none
    | _ => none
  | _, _ => none
def hopAppend (tt : TypeId → Option TI) (id : Nat) (st : St) (T X : TypeId) (s x : D) : Option (Prop × St × D) :=
  match (tt T).map TI.und with
  | some (.slice e) => match tt e with
    | some ei => match srcD tt st X ei x (decide (id < 50000000)) with
      | some (p2, rows2) => match s with
        | .sl true rows1 => some (p2 ∧ (∀ row ∈ rows2, row.length = ei.sz) ∧ 0 < ei.sz ∧ (∀ row ∈ rows1, row.length = ei.sz) ∧ (rows1 = [] ∨ rows2 ≠ []) ∧ (rows1.length + rows2.length) * ei.bytes ≤ 140737488355328 ∧ rows1.length + rows2.length ≤ 9223372036854775807 ∧ (if decide (id < 50000000) = true then True else False),
            st.bind id { sz := ei.sz, rows := rows1 ++ rows2 }, .own id 0 (rows1.length + rows2.length))
        | .own oid off len => match st.heap oid with
          | some o => some (p2 ∧ (∀ row ∈ rows2, row.length = ei.sz) ∧ 0 < ei.sz ∧ o.wr = true ∧ o.sz = ei.sz ∧ off + len ≤ o.rows.length ∧ (len + rows2.length) * ei.bytes ≤ 140737488355328 ∧ len + rows2.length ≤ 9223372036854775807 ∧ (if decide (id < 50000000) = true then True else o.flat = false),
              st.bind oid { o with rows := (o.rows.drop off).take len ++ rows2, pin := false }, .own oid 0 (len + rows2.length))
          | none => none
        | _ => none
      | none => none
    | none => none
  | _ => none
def hopCopy (tt : TypeId → Option TI) (st : St) (T X : TypeId) (s x : D) : Option (Prop × St × D) :=
  match (tt T).map TI.und with
  | some (.slice e) => match tt e, (tt X).map fun i => isIntT i.und with
    | some ei, some none => match srcD tt st X ei x with
      | some (p2, rows2) => match s with
        | .own oid off len => match st.heap oid with
          | some o => some (p2 ∧ (∀ row ∈ rows2, row.length = ei.sz) ∧ 0 < ei.sz ∧ o.wr = true ∧ o.sz = ei.sz ∧ off + len ≤ o.rows.length,
              { st with heap := upd st.heap oid { o with rows := o.rows.take off ++ (rows2.take (min rows2.length len) ++ o.rows.drop (off + min rows2.length len)) } }, .v (.int .i64 ((min rows2.length len : Nat) : Int)))
          | none => none
        | _ => none
      | none => none
    | _, _ => none
  | _ => none
def hopStore (tt : TypeId → Option TI) (st : St) (T : TypeId) (ad x : D) : Option (Prop × St × D) :=
  match tt T, ad with
  | some ti, .ptr oid i k => match st.heap oid with
    | some o0 => match (if o0.flat = true then pur st.heap 4 x else some ([], True, x)) with
      | some (ids, p, d) => match (st.freeze ids).heap oid with
        | some o => some (p ∧ o.wr = true ∧ i < o.rows.length ∧ k + ti.sz ≤ o.sz ∧ d.good = true ∧ d.cells.length = ti.sz ∧ atoms d.cells,
            { st.freeze ids with heap := upd (st.freeze ids).heap oid { o with rows := o.rows.set i ((o.rows.getD i []).take k ++ (d.cells ++ (o.rows.getD i []).drop (k + ti.sz))) } }, .junk)
        | none => none
      | none => none
    | none => none
  | _, _ => none
def hopBytes (tt : TypeId → Option TI) (id : Nat) (st : St) (src dst : TypeId) : D → Option (Prop × St × D)
  | .v (.string s) => match (tt src).map TI.und, (tt dst).map TI.und with
    | some .string, some (.slice e) => match tt e with
      | some ei => match ei.und with
        | .int .u8 => some (ei.sz = 1 ∧ s.size ≤ 9223372036854775807, st.bind id { sz := 1, rows := byteRows s }, .own id 0 s.size)
        | _ => none
      | none => none
    | _, _ => none
  | _ => none
def hopConv (tt : TypeId → Option TI) (id : Nat) (st : St) (src dst : TypeId) : D → Option (Prop × St × D)
  | .own oid off len => match (tt src).map TI.und, st.heap oid with
    | some (.slice e), some o => match tt e with
      | some ei => match ei.und with
        | .int .u8 => some (src = dst ∧ o.wr = true ∧ 0 < len, st, .own oid off len)
        | _ => none
      | none => none
    | _, _ => none
  | d => hopBytes tt id st src dst d
def hopNil (tt : TypeId → Option TI) (st : St) (op : BinOp) (T : TypeId) : Option D → Operand → Option (Prop × St × D)
  | some (.v (.slice none 0 0)), .const (.slice none 0 0) => match (tt T).map TI.und with
    | some (.slice _) => match op with
      | .eql => some (True, st, .v (.bool true))
      | .neq => some (True, st, .v (.bool false))
      | _ => none
    | _ => none
  | _, _ => none
def hop (tt : TypeId → Option TI) (id : Nat) (st : St) : Op → Option (Prop × St × D)
  | .binOp op T x y _ => hopNil tt st op T (st.ev x) y
  | .alloc T => hopAlloc tt id st T
  | .box T x => match st.ev x with
    | some d => hopBox tt id st T d
    | none => none
  | .buildSlice T len parts => match st.evL (parts.toList.map (·.2)) with
    | some ds => hopBuildSlice tt id st T len (parts.toList.map (·.1)) ds
    | none => none
  | .makeSlice T l c => match st.ev l, st.ev c with
    | some dl, some dc => hopMakeSlice tt id st T dl dc
    | _, _ => none
  | .store T ad x => match st.ev ad, st.ev x with
    | some da, some dx => hopStore tt st T da dx
    | _, _ => none
  | .convert src dst x => match st.ev x with
    | some d => hopConv tt id st src dst d
    | none => none
  | .call c => match c.callee, c.args.toList, c.argTypes.toList with
    | .builtin .append, [s, x], [T, X] => match st.ev s, st.ev x with
      | some ds, some dx => hopAppend tt id st T X ds dx
      | _, _ => none
    | .builtin .copy, [s, x], [T, X] => match st.ev s, st.ev x with
      | some ds, some dx => hopCopy tt st T X ds dx
      | _, _ => none
    | _, _, _ => none
  | _ => none
section
variable {P : Program} {E : Ent} {st : St} {a : Act} {w : World} {ρ : Locs} {I : Imm} {tt : TypeId → Option TI}
def Did (E : Ent) (st1 : St) (a : Act) (d : D) (v : Value) (w' : World) : Prop := ∃ ρ' J, RB E st1 a w' ρ' J ∧ Rep J ρ' d v
theorem info_of (ht : TTok P tt) {T : TypeId} {ti : TI} (h : tt T = some ti) : ∃ info, P.info? T = some info ∧ info.size = ti.sz ∧ info.bytes = ti.bytes ∧ info.zero = some ti.zero ∧ ti.zero.cells.size = ti.sz ∧ (ti.zero.cells.all (·.oneCell')) = true := by
  obtain ⟨info, t1, t2, t3, t4, t5, t6, t7, -⟩ := ht T ti h
  exact ⟨info, t1, t3, t4, t5, t6, t7⟩
theorem fr00 {n : Nat} : Unfr n 0 0 := .inl rfl
theorem slice_und {e T : TypeId} (ht : TTok P tt) (h : (tt T).map TI.und = some (.slice e)) : P.underlying T = some (.slice e) := by
  cases hT : tt T with
  | none => simp [hT] at h
  | some ti =>
    simp only [hT, Option.map_some, Option.some.injEq] at h
    have := und_of ht hT
    rwa [h] at this
theorem did_box (h : RB E st a w ρ I) {id : Nat} {d : D} {v : Value} {T : TypeId} {sz : Nat} (hd : Rep I ρ d v) (h0 : 0 < sz) (hg : d.good = true) (hl : d.cells.length = sz) (ha : atoms d.cells) :
    Did E (st.bind id { sz := sz, rows := [d.cells], flat := false }) a (.ptr id 0 0) (.pointer (some ⟨w.heap.size, 0, none⟩)) (w.alloc (.cells v.cells T)) := by
  obtain ⟨c1, c2⟩ := hd.cells hg
  refine ⟨_, I, h.new id (c := v.cells) (e := T) (lo := 0) (hi := 0) (cap := 1) rfl rfl rfl rfl fr00 rfl h0 (by simpa using hl) (by simp) (by simp; omega) (fun j x hx => ?_) (fun i j row d' x q1 q2 q3 => ?_), rep_new_ptr rfl rfl⟩
  · have hj : j < d.cells.length := by have := (Array.getElem?_eq_some_iff.1 hx).1; omega
    exact (c2 j _ x (List.getElem?_eq_getElem hj) hx).one (ha _ (List.getElem_mem hj))
  · cases i with
    | succ i => simp at q1
    | zero =>
      simp at q1; subst q1
      exact c2 j d' x q2 (by simpa using q3)
theorem run_hopAlloc (ht : TTok P tt) (h : RB E st a w ρ I) {id : Nat} {T : TypeId} {p : Prop} {st1 : St} {d : D} (hv : hopAlloc tt id st T = some (p, st1, d)) (hp : p) :
    ∃ v w', (Instr.alloc T true (.tuple #[])).run P w = .ok v w' ∧ Did E st1 a d v w' := by
  unfold hopAlloc at hv
  split at hv
  · rename_i ti hti
    simp only [Option.some.injEq, Prod.mk.injEq] at hv
    obtain ⟨rfl, rfl, rfl⟩ := hv
    obtain ⟨info, i1, i2, i3, i4, i5, i6⟩ := info_of ht hti
    refine ⟨.pointer (some ⟨w.heap.size, 0, none⟩), w.alloc (.cells ti.zero.cells T), by simp [Instr.alloc, zeroValue_run ht hti, newVar, newRow], ?_⟩
    refine ⟨_, I, h.new id (c := ti.zero.cells) (e := T) (lo := 0) (hi := 0) (cap := 1) rfl rfl rfl rfl fr00 rfl hp (by simp [zrow]; exact i5) (by simp) (by simp; omega) (fun j x hx => (Array.all_eq_true_iff_forall_mem.1 i6) x (Array.mem_of_getElem? hx)) (fun i j row d' x q1 q2 q3 => ?_), rep_new_ptr rfl rfl⟩
    cases i with
    | succ i => simp at q1
    | zero =>
      simp at q1; subst q1
      exact (repCs_zero ti).2 j d' x q2 (by simpa using q3)
  · cases hv
theorem run_hopBox (ht : TTok P tt) (h : RB E st a w ρ I) {id : Nat} {T : TypeId} {p : Prop} {st1 : St} {dx d : D} {u : Value} (hv : hopBox tt id st T dx = some (p, st1, d)) (hp : p) (hu : Rep I ρ dx u) :
    ∃ v w', (Instr.box T u).run P w = .ok v w' ∧ Did E st1 a d v w' := by
  unfold hopBox at hv
  split at hv
  · rename_i ti hti
    simp only [Option.some.injEq, Prod.mk.injEq] at hv
    obtain ⟨rfl, rfl, rfl⟩ := hv
    exact ⟨.pointer (some ⟨w.heap.size, 0, none⟩), w.alloc (.cells u.cells T), by simp [Instr.box, newVar, newRow], did_box h hu hp.1 hp.2.1 hp.2.2.1 hp.2.2.2⟩
  · cases hv
theorem run_hopMakeSlice (ht : TTok P tt) (h : RB E st a w ρ I) {id : Nat} {T : TypeId} {p : Prop} {st1 : St} {dl dc d : D} {u v : Value} (hv : hopMakeSlice tt id st T dl dc = some (p, st1, d)) (hp : p) (hu : Rep I ρ dl u) (hc : Rep I ρ dc v) :
    ∃ z w', (Instr.makeSlice T u v).run P w = .ok z w' ∧ Did E st1 a d z w' := by
  unfold hopMakeSlice at hv
  split at hv
  · rename_i k l k' c
    cases rep_v_inv hu; cases rep_v_inv hc
    split at hv
    · rename_i e he
      have hund := slice_und ht he
      split at hv
      · rename_i ei hei
        simp only [Option.some.injEq, Prod.mk.injEq] at hv
        obtain ⟨rfl, rfl, rfl⟩ := hv
        obtain ⟨p0, p1, p2, p3, p4⟩ := hp
        obtain ⟨info, i1, i2, i3, i4, i5, i6⟩ := info_of ht hei
        have hr := run_make (P := P) w T e info ei.zero hund i1 i4 k k' l c p1 p2 (by rw [i3]; exact p3) p4
        refine ⟨_, _, hr, _, I, h.new id (c := madeCells ei.zero.cells (c.toNat * info.size)) (e := e) (lo := 0) (hi := 0) (cap := c.toNat) rfl rfl rfl rfl fr00 rfl p0 (fun row hr => ?_) (by simp; omega) (by rw [size_madeCells, i2]; exact Nat.le_refl _) (fun j x hx => one_made (by omega) i6 j x hx) ?_, rep_new rfl rfl (by simp; omega)⟩
        · rw [(List.mem_replicate.1 hr).2]; simp [zrow]; exact i5
        · intro i j row d' x q1 q2 q3
          rw [i2] at q3
          refine flatRep_zero (I := I) (n := c.toNat) i5 p0 i j row d' x ?_ q2 q3
          rw [List.getElem?_replicate] at q1 ⊢
          split at q1
          · rw [if_pos (by omega)]; exact q1
          · cases q1
      · cases hv
    · cases hv
  · cases hv
theorem run_hopBuildSlice (ht : TTok P tt) (h : RB E st a w ρ I) {id : Nat} {T : TypeId} {len : Nat} {parts : Array (Nat × Operand)} {ds : List D} {p : Prop} {st1 : St} {d : D}
    (hv : hopBuildSlice tt id st T len (parts.toList.map (·.1)) ds = some (p, st1, d)) (hp : p) (hu : RepL I ρ ds ((parts.toList.map (·.2)).map a.eval)) :
    ∃ z w', (Instr.buildSlice T len (parts.map fun (i, x) => (i, a.eval x))).run P w = .ok z w' ∧ Did E st1 a d z w' := by
  unfold hopBuildSlice at hv
  split at hv
  · rename_i e he
    have hund := slice_und ht he
    split at hv
    · rename_i ei ids q ds' hei hpur
      simp only [Option.some.injEq, Prod.mk.injEq] at hv
      obtain ⟨rfl, rfl, rfl⟩ := hv
      obtain ⟨p0, p1, p2, p3, p4⟩ := hp
      obtain ⟨info, i1, i2, i3, i4, i5, i6⟩ := info_of ht hei
      have hrl : ∃ J, RB E (st.freeze ids) a w ρ J ∧ RepL J (if decide (id < 50000000) = true then noLocs else ρ) ds' ((parts.toList.map (·.2)).map a.eval) := by
        by_cases hid : id < 50000000
        · rw [if_pos hid] at hpur
          obtain ⟨J, hJ, h', hds⟩ := h.purL hpur p2 hu
          exact ⟨J, h', by simpa [hid] using hds⟩
        · rw [if_neg hid] at hpur
          simp only [Option.some.injEq, Prod.mk.injEq] at hpur
          obtain ⟨rfl, _, rfl⟩ := hpur
          exact ⟨I, by simpa [St.freeze] using h, by simpa [hid] using hu⟩
      obtain ⟨J, h', hds⟩ := hrl
      generalize hfl : decide (id < 50000000) = fl at hds ⊢
      have hpl : (parts.map fun x : Nat × Operand => (x.1, a.eval x.2)).toList = parts.toList.map fun x => (x.1, a.eval x.2) := by simp
      have e1 : (((parts.toList.map (·.1)).zip ds').map (·.1)) = (parts.toList.map fun x => (x.1, a.eval x.2)).map (·.1) := by rw [zip_map_fst _ _ p3]; simp
      have e2 : RepL J (if fl = true then noLocs else ρ) (((parts.toList.map (·.1)).zip ds').map (·.2)) ((parts.toList.map fun x => (x.1, a.eval x.2)).map (·.2)) := by
        rw [zip_map_snd _ _ p3]
        have : (parts.toList.map fun x => (x.1, a.eval x.2)).map (·.2) = (parts.toList.map (·.2)).map a.eval := by simp
        rw [this]; exact hds
      have hin : RowsIn J (if fl = true then noLocs else ρ) ei.sz (List.replicate len (zrow ei)) (madeCells ei.zero.cells (len * ei.sz)) :=
        ⟨fun row hr => by rw [(List.mem_replicate.1 hr).2]; simp [zrow]; exact i5, by simp [size_madeCells], fun j x hx => one_made (by omega) i6 j x hx, fun i j row d x q1 q2 q3 => noLocs_kill (flatRep_zero i5 p0 i j row d x q1 q2 q3)⟩
      obtain ⟨c', f1, f2, f3⟩ := fillRows_ok _ _ _ _ p4 e1 e2 hin
      rw [List.length_replicate] at f3
      have hrun : (Instr.buildSlice T len (parts.map fun (i, x) => (i, a.eval x))).run P w = .ok (.slice (some ⟨w.heap.size, 0, none⟩) len len) (w.alloc (.cells c' e)) := by
        have n1 : ¬ (16777216 < len * ei.sz) := by omega
        have hmade : (Array.range (len * ei.sz)).map (fun x => (if len * ei.sz = 0 then #[] else ei.zero.cells)[x % (if len * ei.sz = 0 then #[] else ei.zero.cells).size]!) = madeCells ei.zero.cells (len * ei.sz) := by
          by_cases hz : len * ei.sz = 0
          · rw [hz]; simp [madeCells]
          · simp only [hz, if_false, madeCells]
        by_cases hz : len * ei.sz = 0
        · simp only [hz, if_true] at hmade f1
          simp only [Instr.buildSlice, Sem.run_bind, run_underlying hund, Result.andThen_ok, run_sizeOf ht hei, Sem.run_ite, hpl]
          have hm0 : ∀ g : Nat → Value, Array.map g (Array.range 0) = #[] := fun g => Array.size_eq_zero_iff.1 (by simp)
          rw [show (madeCells ei.zero.cells 0) = #[] from Array.size_eq_zero_iff.1 (size_madeCells _ _)] at f1
          simp [hz, hm0, f1, newRow]
        · simp only [hz, if_false] at hmade
          simp only [Instr.buildSlice, Sem.run_bind, run_underlying hund, Result.andThen_ok, run_sizeOf ht hei, Sem.run_ite, hpl]
          simp [hz, n1, zeroValue_run ht hei, hmade, f1, newRow]
      refine ⟨_, _, hrun, _, J, h'.new id (c := c') (e := e) (lo := 0) (hi := 0) (cap := len) rfl rfl rfl rfl fr00 rfl p0 f2.len (Nat.le_of_eq f3) (by rw [f2.size, f3]; exact Nat.le_refl _) f2.one f2.rep, rep_new rfl rfl (Nat.le_refl _)⟩
    · cases hv
  · cases hv
theorem flatRep_append {ρ' : Locs} {sz : Nat} {r1 r2 : List (List D)} {c : Array Value} {cs2 : List Value} {k : Nat} (h1 : FlatRep I ρ' sz r1 c) (h2 : FlatRep I ρ' sz r2 cs2.toArray)
    (hl2 : ∀ row ∈ r2, row.length = sz) (hlen : cs2.length = r2.length * sz) (c' : Array Value) (hlo : ∀ j, j < r1.length * sz → c'[j]? = c[j]?) (hhi : ∀ j, j < cs2.length → c'[r1.length * sz + j]? = cs2[j]?) (hl1 : ∀ row ∈ r1, row.length = sz) : FlatRep I ρ' sz (r1 ++ r2) c' := by
  intro i j row d x q1 q2 q3
  have hj := (List.getElem?_eq_some_iff.1 q2).1
  by_cases hi : i < r1.length
  · rw [List.getElem?_append_left hi] at q1
    rw [hl1 row (List.mem_of_getElem? q1)] at hj
    rw [hlo _ (mul_lt_of hi hj)] at q3
    exact h1 i j row d x q1 q2 q3
  · rw [List.getElem?_append_right (by omega)] at q1
    rw [hl2 row (List.mem_of_getElem? q1)] at hj
    have hi2 : i - r1.length < r2.length := (List.getElem?_eq_some_iff.1 q1).1
    have hlt := mul_lt_of hi2 hj
    have e : i * sz + j = r1.length * sz + ((i - r1.length) * sz + j) := by
      have : i * sz = r1.length * sz + (i - r1.length) * sz := by rw [← Nat.add_mul]; congr 1; omega
      omega
    rw [e, hhi _ (by omega)] at q3
    exact h2 (i - r1.length) j row d x q1 q2 (by simpa using q3)
theorem grown_get {olds cs : List Value} {z : Array Value} {m : Nat} (j : Nat) : j < olds.length + cs.length → (olds.toArray ++ cs.toArray ++ Builtin.zeroCells z m)[j]? = (olds ++ cs)[j]? := by
  intro hj
  rw [Array.getElem?_append_left (by simp; omega)]
  simp
theorem grown_one {olds cs : List Value} {z : Array Value} {m : Nat} (h1 : ∀ v ∈ olds, v.oneCell' = true) (h2 : ∀ v ∈ cs, v.oneCell' = true) (hz0 : 0 < z.size) (hz : (z.all (·.oneCell')) = true) (j : Nat) (x : Value)
    (hx : (olds.toArray ++ cs.toArray ++ Builtin.zeroCells z m)[j]? = some x) : x.oneCell' = true := by
  rw [Array.getElem?_append] at hx
  split at hx
  · have : x ∈ olds ++ cs := by
      have := List.mem_of_getElem? (l := olds ++ cs) (i := j) (a := x) (by simpa using hx)
      exact this
    rcases List.mem_append.1 this with q | q
    · exact h1 x q
    · exact h2 x q
  · rw [zeroCells_made z m z.size rfl] at hx
    exact one_made hz0 hz _ x hx
theorem run_hopAppend (ht : TTok P tt) (h : RB E st a w ρ I) {id : Nat} {T X ty : TypeId} {p : Prop} {st1 : St} {ds dx d : D} {u v : Value} (hv : hopAppend tt id st T X ds dx = some (p, st1, d)) (hp : p) (hu : Rep I ρ ds u) (hx : Rep I ρ dx v) :
    ∃ z w', (Builtin.append_ #[T, X] ty #[u, v]).run P w = .ok z w' ∧ Did E st1 a d z w' := by
  unfold hopAppend at hv
  split at hv
  · rename_i e he
    have hund := slice_und ht he
    split at hv
    · rename_i ei hei
      obtain ⟨info, i1, i2, i3, i4, i5, i6⟩ := info_of ht hei
      split at hv
      · rename_i p2 rows2 hsrc
        split at hv
        · rename_i rows1
          simp only [Option.some.injEq, Prod.mk.injEq] at hv
          obtain ⟨rfl, rfl, rfl⟩ := hv
          obtain ⟨g1, g2, g3, g4, g5, g6, g7, g0⟩ := hp
          obtain ⟨cs, s1, s2, s3, s4⟩ := h.source ht hei i1 hsrc g1 g2 g3 hx
          have hfl : decide (id < 50000000) = true := by
            by_cases q : decide (id < 50000000) = true
            · exact q
            · rw [if_neg q] at g0; exact g0.elim
          rw [if_pos hfl] at s4
          obtain ⟨ad, cap, rfl, _, hcap, hr⟩ := rows_of_sl (ρ := noLocs) h.mem.imm (hu.locs (p := fun _ => false) (by simp) rfl)
          have hcap := hcap rfl
          subst hcap
          by_cases hroom : rows1.length + rows2.length ≤ rows1.length
          · have h20 : rows2 = [] := by cases rows2 with
              | nil => rfl
              | cons _ _ => exfalso; simp only [List.length_cons] at hroom; omega
            subst h20
            have h10 : rows1 = [] := by rcases g5 with q | q; · exact q
                                        · exact absurd rfl q
            subst h10
            have hcs : cs = [] := by cases cs with
              | nil => rfl
              | cons _ _ => simp at s2
            subst hcs
            have hst : (storeAfter ad (0 * info.size) []).run P w = .ok () w := by cases ad <;> simp [storeAfter, storeCells]
            have hrun := run_append_room2 (ty := ty) (sLen := 0) (sCap := 0) hund i1 i4 s1 (by omega) (by simp) (by simp) hst
            refine ⟨_, _, hrun, updL ρ id ⟨none, 0, 0, ei.sz⟩, I, ?_, ?_⟩
            · refine h.rebind (bn := w.heap.size) ⟨rfl, rfl, rfl, Nat.le_refl _, fun _ _ _ => rfl, .inl (Nat.le_refl _)⟩ (.inr rfl) ⟨rfl, g3, by simp, by simp, .inl ⟨rfl, rfl⟩⟩
            · have := Rep.own (I := I) (updL ρ id ⟨none, 0, 0, ei.sz⟩) id 0 0 ⟨none, 0, 0, ei.sz⟩ ad updL_eq (by simp) (.inl rfl)
              simpa using this
          · have hold : ∃ olds : List Value, olds.length = rows1.length * ei.sz ∧ (∀ v ∈ olds, v.oneCell' = true) ∧ FlatRep I noLocs ei.sz rows1 olds.toArray ∧ ∀ w', w'.heap = w.heap → (Builtin.firstCells info.size rows1.length (.slice ad rows1.length rows1.length)).run P w' = .ok olds.toArray w' := by
              by_cases hne : rows1 = []
              · subst hne
                exact ⟨[], by simp, by simp, fun i j row d x q => by simp at q, fun w' _ => by simpa using firstCells_zero⟩
              · obtain ⟨b, o, sz, rfl, hrs⟩ := hr hne
                have hsz : sz = ei.sz := by
                  cases rows1 with
                  | nil => exact absurd rfl hne
                  | cons r rs => rw [← hrs.len r (by simp), g4 r (by simp)]
                subst hsz
                obtain ⟨os, o1, o2, o3, o4⟩ := hrs.source (P := P)
                refine ⟨os, o1, o2, o3, fun w' hw => ?_⟩
                have := o4 w' rows1.length rows1.length rows1.length hw (Nat.le_refl _)
                rw [List.take_of_length_le (by omega)] at this
                rw [i2]; exact this
            obtain ⟨olds, o1, o2, o3, o4⟩ := hold
            have hrun := run_append_grow2 (ty := ty) (base := ad) hund i1 i4 s1 (by omega) (by rw [i2]; exact s2) hroom o4 g7 (by rw [i3]; exact g6)
            have hge := grownCap_ge w (rows1.length + rows2.length) rows1.length e
            refine ⟨_, _, hrun, _, I, h.drew.new id (e := e) (lo := 0) (hi := 0) (cap := grownCap w (rows1.length + rows2.length) rows1.length e) rfl rfl rfl rfl fr00 rfl g3 ?_ (by simp; exact hge) ?_ (grown_one o2 s3 (by omega) i6) ?_, rep_new rfl rfl (by simpa using hge)⟩
            · intro row hr'
              rcases List.mem_append.1 hr' with q | q
              · exact g4 row q
              · exact g2 row q
            · simp only [Array.size_append, List.size_toArray, size_zeroCells, o1, s2, i5]
              rw [← Nat.add_mul, ← Nat.add_mul]
              exact Nat.mul_le_mul_right _ (by omega)
            · refine flatRep_append (k := 0) o3 s4 g2 s2 _ (fun j hj => ?_) (fun j hj => ?_) g4
              · rw [grown_get j (by omega), List.getElem?_append_left (by omega)]; simp
              · rw [grown_get _ (by omega), List.getElem?_append_right (by omega), o1]; congr 1; omega
        · rename_i oid off len
          cases ho : st.heap oid with
          | none => simp [ho] at hv
          | some o =>
            simp only [ho, Option.some.injEq, Prod.mk.injEq] at hv
            obtain ⟨rfl, rfl, rfl⟩ := hv
            obtain ⟨g1, g2, g3, g4, g5, g6, g7, g8, g0⟩ := hp
            obtain ⟨cs, s1, s2, s3, s4⟩ := h.source ht hei i1 hsrc g1 g2 g3 hx
            obtain ⟨l, hl, hlaid⟩ := h.mem.laid oid o ho
            have hlen : ((o.rows.drop off).take len).length = len := by simp; omega
            have hrl : ∀ row ∈ (o.rows.drop off).take len ++ rows2, row.length = o.sz := by
              intro row hr
              rcases List.mem_append.1 hr with q | q
              · exact hlaid.rows row (List.mem_of_mem_drop (List.mem_of_mem_take q))
              · rw [g2 row q, g5]
            have s4' : FlatRep I (if o.flat then noLocs else ρ) o.sz rows2 cs.toArray := by
              rw [g5]
              by_cases hfl : decide (id < 50000000) = true
              · rw [if_pos hfl] at s4
                cases o.flat with
                | true => exact s4
                | false => exact fun i j row d x q1 q2 q3 => noLocs_kill (s4 i j row d x q1 q2 q3)
              · rw [if_neg hfl] at s4 g0
                rw [g0]; exact s4
            cases hu with
            | own _ _ _ _ l' ad hl' hcap ha =>
              rw [hl] at hl'; cases hl'
              by_cases hroom : len + rows2.length ≤ l.cap - off
              · -- where it lies
                by_cases hc0 : l.cap = off
                · have hz : len = 0 ∧ rows2 = [] := by
                    constructor
                    · omega
                    · cases rows2 with
                      | nil => rfl
                      | cons _ _ => exfalso; simp only [List.length_cons] at hroom; omega
                  obtain ⟨rfl, rfl⟩ := hz
                  have hcs : cs = [] := by cases cs with
                    | nil => rfl
                    | cons _ _ => simp at s2
                  subst hcs
                  have hst : (storeAfter ad (0 * info.size) []).run P w = .ok () w := by cases ad <;> simp [storeAfter, storeCells]
                  have hrun := run_append_room2 (ty := ty) (sLen := 0) (sCap := l.cap - off) hund i1 i4 s1 (by omega) (by simp) (by simp) hst
                  refine ⟨_, _, hrun, updL ρ oid ⟨none, 0, 0, o.sz⟩, I, ?_, ?_⟩
                  · refine h.rebind (bn := w.heap.size) ⟨rfl, rfl, rfl, Nat.le_refl _, fun _ _ _ => rfl, .inl (Nat.le_refl _)⟩ (.inr rfl) ⟨rfl, hlaid.pos, by simp, by simp, .inl ⟨rfl, rfl⟩⟩
                  · have e0 : l.cap - off = 0 := by omega
                    have := Rep.own (I := I) (updL ρ oid ⟨none, 0, 0, o.sz⟩) oid 0 0 ⟨none, 0, 0, o.sz⟩ ad updL_eq (by simp) (.inl rfl)
                    simpa [e0] using this
                · rcases ha with ha | ⟨b, hb, rfl⟩
                  · exact absurd ha hc0
                  · rcases hlaid.mem with ⟨q0, _⟩ | ⟨b', c, el, lo, hi, q1, q2, q3, q4, q5, q6, hone, q7⟩
                    · rw [q0] at hb; cases hb
                    · have hbb : b' = b := by rw [q1] at hb; exact Option.some.inj hb
                      subst hbb
                      have hsz := hlaid.sz
                      have hb1 : (off + (len + rows2.length)) * o.sz ≤ l.cap * o.sz := Nat.mul_le_mul_right _ (by omega)
                      have hb2 : (off + (len + rows2.length)) * o.sz = off * o.sz + (len * o.sz + rows2.length * o.sz) := by rw [Nat.add_mul, Nat.add_mul]
                      rw [← g5] at s2
                      have hfit : l.off + off * o.sz + len * o.sz + cs.length ≤ c.size := by rw [s2]; omega
                      have hst : (storeAfter (some ⟨b', l.off + off * l.sz, none⟩) (len * info.size) cs).run P w = .ok () (w.setRow b' (over c (l.off + off * o.sz + len * o.sz) cs)) := by
                        simp only [storeAfter, Addr.add_lit]
                        have e1 : info.size = o.sz := by rw [i2, g5]
                        rw [e1, hsz]
                        exact run_store_over q2 q3.no hfit s3
                      have hrun := run_append_room2 (ty := ty) (sLen := len) (sCap := l.cap - off) hund i1 i4 s1 (by omega) (by rw [i2, ← g5]; exact s2) hroom hst
                      refine ⟨_, _, hrun, updL ρ oid ⟨some b', l.off + off * o.sz, l.cap - off, o.sz⟩, I, ?_, ?_⟩
                      · refine h.rebind (rebind_setRow (c := c) (t := el) (fr := (lo, hi)) ho g4 hl q1) (.inl rfl) ⟨rfl, hlaid.pos, hrl, by simp only [List.length_append, hlen]; exact hroom, .inr ⟨b', over c (l.off + off * o.sz + len * o.sz) cs, el, lo, hi, rfl, setRow_heap w b' c _ el (lo, hi) q2, by rw [over_size hfit]; exact q3, ?_, by simp [g4], fun _ => q6 g4, over_one hfit hone s3, ?_⟩⟩
                        · rw [over_size hfit]
                          have : (off + (l.cap - off)) * o.sz = l.cap * o.sz := by congr 1; omega
                          rw [Nat.add_mul] at this
                          show l.off + off * o.sz + (l.cap - off) * o.sz ≤ c.size
                          omega
                        · intro i j row d x r1 r2 r3
                          have hj := (List.getElem?_eq_some_iff.1 r2).1
                          rw [hrl row (List.mem_of_getElem? r1)] at hj
                          have r3' : (over c (l.off + off * o.sz + len * o.sz) cs)[l.off + off * o.sz + i * o.sz + j]? = some x := r3
                          rw [over_get hfit] at r3'
                          by_cases hi' : i < len
                          · have hlt := mul_lt_of hi' hj
                            rw [if_neg (by omega)] at r3'
                            have r1' : ((o.rows.drop off).take len ++ rows2)[i]? = some row := r1
                            rw [List.getElem?_append_left (by omega), List.getElem?_take, if_pos hi', List.getElem?_drop] at r1'
                            refine q7 (off + i) j row d x r1' r2 ?_
                            rw [Nat.add_mul, ← Nat.add_assoc]; exact r3'
                          · have r1' : ((o.rows.drop off).take len ++ rows2)[i]? = some row := r1
                            rw [List.getElem?_append_right (by omega), hlen] at r1'
                            have hi2 : i - len < rows2.length := (List.getElem?_eq_some_iff.1 r1').1
                            have hlt := mul_lt_of hi2 hj
                            have e1 : i * o.sz = len * o.sz + (i - len) * o.sz := by rw [← Nat.add_mul]; congr 1; omega
                            rw [if_pos (by omega)] at r3'
                            refine s4' (i - len) j row d x r1' r2 ?_
                            have e2 : l.off + off * o.sz + i * o.sz + j - (l.off + off * o.sz + len * o.sz) = (i - len) * o.sz + j := by omega
                            rw [e2] at r3'
                            simpa using r3'
                      · have := Rep.own (I := I) (updL ρ oid ⟨some b', l.off + off * o.sz, l.cap - off, o.sz⟩) oid 0 (len + rows2.length) ⟨some b', l.off + off * o.sz, l.cap - off, o.sz⟩ (some ⟨b', l.off + off * l.sz, none⟩) updL_eq (by simpa using hroom) (.inr ⟨b', rfl, by simp [hsz]⟩)
                        simpa using this
              · -- a new array
                have hold : ∃ olds : List Value, olds.length = len * o.sz ∧ (∀ v ∈ olds, v.oneCell' = true) ∧ FlatRep I (if o.flat then noLocs else ρ) o.sz ((o.rows.drop off).take len) olds.toArray ∧ ∀ w', w'.heap = w.heap → (Builtin.firstCells info.size len (.slice ad len (l.cap - off))).run P w' = .ok olds.toArray w' := by
                  by_cases h0 : len = 0
                  · subst h0
                    exact ⟨[], by simp, by simp, fun i j row d x q => by simp at q, fun w' _ => by simpa using firstCells_zero⟩
                  · have hne : o.rows ≠ [] := by rintro q; simp [q] at g6; omega
                    have hlaid' : LaidObj I (if o.flat then noLocs else ρ) w o l := by
                      cases hf : o.flat with
                      | true => exact laid_flat hf hlaid
                      | false => exact hlaid
                    obtain ⟨b, hb, hrs⟩ := rows_of_obj hlaid' hne
                    rcases ha with ha | ⟨b', hb', rfl⟩
                    · omega
                    · rw [hb] at hb'; cases hb'
                      obtain ⟨os, o1, o2, o3, o4⟩ := (hrs.sub off len).source (P := P)
                      rw [hlen] at o1 o4
                      refine ⟨os, o1, o2, o3, fun w' hw => ?_⟩
                      have := o4 w' len len (l.cap - off) hw (Nat.le_refl _)
                      rw [List.take_of_length_le (by omega)] at this
                      rw [i2, ← g5, hlaid.sz]; exact this
                obtain ⟨olds, o1, o2, o3, o4⟩ := hold
                rw [← g5] at s2
                have hrun := run_append_grow2 (ty := ty) (base := ad) hund i1 i4 s1 (by omega) (by rw [i2, ← g5]; exact s2) hroom o4 g8 (by rw [i3]; exact g7)
                have hge := grownCap_ge w (len + rows2.length) (l.cap - off) e
                refine ⟨_, _, hrun, _, I, h.drew.new oid (e := e) (lo := 0) (hi := 0) (cap := grownCap w (len + rows2.length) (l.cap - off) e) rfl rfl rfl rfl fr00 g4 hlaid.pos hrl (by simp only [List.length_append, hlen]; exact hge) ?_ (grown_one o2 s3 (by omega) i6) ?_, rep_new rfl rfl (by simpa using hge)⟩
                · simp only [Array.size_append, List.size_toArray, size_zeroCells, o1, s2, i5, ← g5]
                  rw [← Nat.add_mul, ← Nat.add_mul]
                  exact Nat.mul_le_mul_right _ (by omega)
                · refine flatRep_append (k := 0) o3 s4' (fun row hr => by rw [g2 row hr, g5]) s2 _ (fun j hj => ?_) (fun j hj => ?_) (fun row hr => hrl row (List.mem_append_left _ hr))
                  · rw [hlen] at hj
                    rw [grown_get j (by omega), List.getElem?_append_left (by omega)]; simp
                  · rw [hlen, grown_get _ (by omega), List.getElem?_append_right (by omega), o1]; congr 1; omega
        · cases hv
      · cases hv
    · cases hv
  · cases hv
end
end Go.Ab
