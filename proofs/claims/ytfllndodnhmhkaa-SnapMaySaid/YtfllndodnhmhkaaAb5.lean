/-
  ABSTRACT DATA FOR WALKS, 5: addresses, slices, conversions, lengths, aggregates built.
-/
import Derived.Test.YtfllndodnhmhkaaAb4
namespace Go.Ab
set_option linter.unusedSimpArgs false
set_option linter.unusedVariables false

section
variable {P : Program} {E : Ent} {st : St} {a : Act} {w : World} {ρ : Locs} {I : Imm} {tt : TypeId → Option TI}

/-! ### addresses -/

def valFieldAddr (tt : TypeId → Option TI) (S : TypeId) (f : Nat) (x : D) : Option (Prop × D) :=
  match (tt S).map TI.und with
  | some (.struct fields) => match fields[f]? with
    | some fd => match tt fd.type with
      | some fi => match x with
        | .ref row k => some (fi.sz ≠ 0, .ref row (k + fd.offset))
        | .ptr id i k => some (fi.sz ≠ 0, .ptr id i (k + fd.offset))
        | _ => none
      | none => none
    | none => none
  | _ => none

theorem run_valFieldAddr (ht : TTok P tt) {S : TypeId} {f : Nat} {x r : D} {p : Prop} {u : Value} (hv : valFieldAddr tt S f x = some (p, r)) (hp : p) (hu : Rep I ρ x u) :
    ∃ z, (Instr.fieldAt S u f).run P w = .ok z w ∧ Rep I ρ r z := by
  unfold valFieldAddr at hv
  split at hv
  · rename_i fields hS
    split at hv
    · rename_i fd hfd
      split at hv
      · rename_i fi hfi
        cases hS' : tt S with
        | none => simp [hS'] at hS
        | some si =>
          simp only [hS', Option.map_some, Option.some.injEq] at hS
          have hund := und_of ht hS'
          rw [hS] at hund
          split at hv
          · rename_i row k
            simp only [Option.some.injEq, Prod.mk.injEq] at hv
            obtain ⟨rfl, rfl⟩ := hv
            cases hu with
            | ref _ _ _ b o c hI hc h1 hh =>
              refine ⟨.pointer (some ⟨b, o + (k + fd.offset), none⟩), ?_, .ref _ _ _ b o c hI hc h1 hh⟩
              simp [Instr.fieldAt, run_underlying hund, hfd, Instr.sureAddr, fieldPlace, run_sizeOf ht hfi, hp, Addr.add_lit, Nat.add_assoc]
          · rename_i id i k
            simp only [Option.some.injEq, Prod.mk.injEq] at hv
            obtain ⟨rfl, rfl⟩ := hv
            cases hu with
            | ptr _ _ _ _ b l hl hb =>
              refine ⟨.pointer (some ⟨b, l.off + i * l.sz + (k + fd.offset), none⟩), ?_, .ptr _ _ _ _ b l hl hb⟩
              simp [Instr.fieldAt, run_underlying hund, hfd, Instr.sureAddr, fieldPlace, run_sizeOf ht hfi, hp, Addr.add_lit, Nat.add_assoc]
          · cases hv
      · cases hv
    · cases hv
  · cases hv

def valIndexAddr (tt : TypeId → Option TI) (st : St) (T : TypeId) (x : D) : D → Option (Prop × D)
  | .v (.int _ i) => match (tt T).map TI.und with
    | some (.slice e) => match tt e with
      | some ei => match x with
        | .sl _ rows => some (0 ≤ i ∧ i < rows.length ∧ (rows.getD i.toNat []).length = ei.sz, .ref (rows.getD i.toNat []) 0)
        | .own id off len => match st.heap id with
          | some o => some (0 ≤ i ∧ i < len ∧ o.sz = ei.sz ∧ off + i.toNat < o.rows.length, .ptr id (off + i.toNat) 0)
          | none => none
        | _ => none
      | none => none
    | some (.array n e) => match tt e with
      | some ei => match x with
        | .ref row k => some (0 ≤ i ∧ i < n, .ref row (k + i.toNat * ei.sz))
        | .ptr id j k => some (0 ≤ i ∧ i < n, .ptr id j (k + i.toNat * ei.sz))
        | _ => none
      | none => none
    | _ => none
  | _ => none

theorem run_valIndexAddr (ht : TTok P tt) (h : RB E st a w ρ I) {T : TypeId} {x ix r : D} {p : Prop} {u v : Value} (hv : valIndexAddr tt st T x ix = some (p, r)) (hp : p)
    (hu : Rep I ρ x u) (hx : Rep I ρ ix v) : ∃ z, (Instr.indexAt T u v).run P w = .ok z w ∧ Rep I ρ r z := by
  unfold valIndexAddr at hv
  split at hv
  · rename_i kk i
    cases rep_v_inv hx
    split at hv
    · rename_i e hT
      cases hT' : tt T with
      | none => simp [hT'] at hT
      | some si =>
        simp only [hT', Option.map_some, Option.some.injEq] at hT
        have hund := und_of ht hT'
        rw [hT] at hund
        split at hv
        · rename_i ei hei
          split at hv
          · rename_i full rows
            simp only [Option.some.injEq, Prod.mk.injEq] at hv
            obtain ⟨rfl, rfl⟩ := hv
            obtain ⟨h0, h1, h2⟩ := hp
            have hi : i.toNat < rows.length := by omega
            cases hu with
            | nil _ _ _ _ _ => simp at hi
            | sl _ _ _ b o cap sz c hI hsz hc hcap hf hone hh =>
              have hr := getD_rows hi
              have hrl := hsz _ (List.mem_of_getElem? hr)
              have hsz' : sz = ei.sz := by omega
              subst hsz'
              have hb : i.toNat * ei.sz + ei.sz ≤ rows.length * ei.sz := by
                calc i.toNat * ei.sz + ei.sz = (i.toNat + 1) * ei.sz := by rw [Nat.add_mul, Nat.one_mul]
                  _ ≤ _ := Nat.mul_le_mul_right _ hi
              refine ⟨.pointer (some ⟨b, o + i.toNat * ei.sz + 0, none⟩), ?_, .ref _ _ _ b (o + i.toNat * ei.sz) c hI (by omega) (fun j x hj hx => hone (i.toNat * ei.sz + j) x (by omega) (by rw [← Nat.add_assoc]; exact hx)) fun j d x hj hx => hh _ _ _ _ _ hr hj hx⟩
              simp [Instr.indexAt, asIntOf, run_underlying hund, h0, h1, run_sizeOf ht hei, Addr.add_lit]
          · rename_i id off len
            split at hv
            · rename_i ob hob
              simp only [Option.some.injEq, Prod.mk.injEq] at hv
              obtain ⟨rfl, rfl⟩ := hv
              obtain ⟨h0, h1, h2, h3⟩ := hp
              obtain ⟨l, hl, hlaid⟩ := h.mem.laid id ob hob
              cases hu with
              | own _ _ _ _ l' ad hl' hcap ha =>
                rw [hl] at hl'; cases hl'
                rcases ha with ha | ⟨b, hb, rfl⟩
                · omega
                · refine ⟨.pointer (some ⟨b, l.off + (off + i.toNat) * l.sz + 0, none⟩), ?_, .ptr _ _ _ _ b l hl hb⟩
                  have e1 : l.sz = ei.sz := by rw [hlaid.sz, h2]
                  simp [Instr.indexAt, asIntOf, run_underlying hund, h0, h1, run_sizeOf ht hei, Addr.add_lit, e1, Nat.add_mul, Nat.add_assoc]
            · cases hv
          · cases hv
        · cases hv
    · rename_i n e hT
      cases hT' : tt T with
      | none => simp [hT'] at hT
      | some si =>
        simp only [hT', Option.map_some, Option.some.injEq] at hT
        have hund := und_of ht hT'
        rw [hT] at hund
        split at hv
        · rename_i ei hei
          split at hv
          · rename_i row k
            simp only [Option.some.injEq, Prod.mk.injEq] at hv
            obtain ⟨rfl, rfl⟩ := hv
            obtain ⟨h0, h1⟩ := hp
            cases hu with
            | ref _ _ _ b o c hI hc hone hh =>
              refine ⟨.pointer (some ⟨b, o + (k + i.toNat * ei.sz), none⟩), ?_, .ref _ _ _ b o c hI hc hone hh⟩
              simp [Instr.indexAt, asIntOf, run_underlying hund, Instr.sureAddr, h0, h1, run_sizeOf ht hei, Addr.add_lit, Nat.add_assoc]
          · rename_i id j k
            simp only [Option.some.injEq, Prod.mk.injEq] at hv
            obtain ⟨rfl, rfl⟩ := hv
            obtain ⟨h0, h1⟩ := hp
            cases hu with
            | ptr _ _ _ _ b l hl hb =>
              refine ⟨.pointer (some ⟨b, l.off + j * l.sz + (k + i.toNat * ei.sz), none⟩), ?_, .ptr _ _ _ _ b l hl hb⟩
              simp [Instr.indexAt, asIntOf, run_underlying hund, Instr.sureAddr, h0, h1, run_sizeOf ht hei, Addr.add_lit, Nat.add_assoc]
          · cases hv
        · cases hv
    · cases hv
  · cases hv

/-! ### slices of slices and strings -/

def bnd (d : Int) : Option D → Option Int
  | none => some d
  | some (.v (.int _ i)) => some i
  | _ => none

def valSlice (tt : TypeId → Option TI) (st : St) (T : TypeId) (x : D) (lo hi mx : Option D) : Option (Prop × D) :=
  match (tt T).map TI.und, x with
  | some (.slice e), .sl full rows => match tt e, bnd 0 lo, bnd rows.length hi, mx with
    | some ei, some l, some h, none => some ((0 ≤ l ∧ l ≤ h ∧ h ≤ rows.length) ∧ (rows = [] ∨ ∃ row ∈ rows, row.length = ei.sz), .sl (full && hi.isNone) ((rows.drop l.toNat).take (h.toNat - l.toNat)))
    | some ei, some l, some h, some (.v (.int _ m)) => some ((0 ≤ l ∧ l ≤ h ∧ h = m ∧ h ≤ rows.length) ∧ hi.isSome = true ∧ (rows = [] ∨ ∃ row ∈ rows, row.length = ei.sz), .sl true ((rows.drop l.toNat).take (h.toNat - l.toNat)))
    | _, _, _, _ => none
  | some (.slice e), .own id off len => match tt e, st.heap id, bnd 0 lo, bnd len hi, mx with
    | some ei, some o, some l, some h, none => some (0 ≤ l ∧ l ≤ h ∧ off + h.toNat ≤ o.rows.length ∧ o.sz = ei.sz, .own id (off + l.toNat) (h.toNat - l.toNat))
    | some _, some _, some l, some h, some (.v (.int _ m)) => some (hi.isSome = true ∧ 0 ≤ l ∧ l = h ∧ h = m ∧ m ≤ len, .sl true [])
    | _, _, _, _, _ => none
  | some .string, .v (.string s) => match bnd 0 lo, bnd s.size hi, mx with
    | some l, some h, none => some (0 ≤ l ∧ l ≤ h ∧ h ≤ s.size, .v (.string (s.extract l.toNat h.toNat)))
    | _, _, _ => none
  | _, _ => none

/-- What an optional operand stands for. -/
def RepO (I : Imm) (ρ : Locs) : Option D → Option Value → Prop
  | none, none => True
  | some d, some v => Rep I ρ d v
  | _, _ => False

theorem run_bnds {isSlice : Bool} {len cap : Nat} {lo hi mx : Option D} {lov hiv mxv : Option Value} {l h m : Int} (hlo : RepO I ρ lo lov) (hhi : RepO I ρ hi hiv) (hmx : RepO I ρ mx mxv)
    (h1 : bnd 0 lo = some l) (h2 : bnd len hi = some h) (h3 : bnd cap mx = some m) (hm : mx.isSome = true → hi.isSome = true) (a1 : 0 ≤ l) (a2 : l ≤ h) (a3 : h ≤ m) (a4 : m ≤ cap) :
    (Instr.sliceBounds isSlice len cap lov hiv mxv).run P w = .ok (l.toNat, h.toNat, m.toNat) w := by
  have key : ∀ (d : Int) (x : Option D) (xv : Option Value) (i : Int), RepO I ρ x xv → bnd d x = some i → (xv = none ∧ i = d ∧ x = none) ∨ ∃ k, xv = some (.int k i) ∧ x.isSome = true := by
    intro d x xv i hx hb
    unfold bnd at hb
    split at hb
    · cases xv <;> simp [RepO] at hx
      exact .inl ⟨rfl, by simpa using hb.symm, rfl⟩
    · rename_i k i'
      cases xv with
      | none => simp [RepO] at hx
      | some v =>
        have := rep_v_inv hx
        subst this
        simp at hb; subst hb
        exact .inr ⟨k, rfl, rfl⟩
    · cases hb
  have b1 : 0 ≤ h := by omega
  have b2 : 0 ≤ m := by omega
  have b3 : l ≤ ((h.toNat : Nat) : Int) := by omega
  have b4 : h ≤ ((m.toNat : Nat) : Int) := by omega
  have n1 : ¬ l < 0 := by omega
  have n2 : ¬ h < 0 := by omega
  have n3 : ¬ m < 0 := by omega
  have n4 : ¬ max h 0 < l := by omega
  have n5 : ¬ max m 0 < h := by omega
  have n6 : ¬ (cap : Int) < m := by omega
  have n7 : ¬ (cap : Int) < h := by omega
  have p4 : l ≤ max h 0 := by omega
  have p5 : h ≤ max m 0 := by omega
  have p7 : h ≤ (cap : Int) := by omega
  rcases key _ _ _ _ hlo h1 with ⟨rfl, e1, q1⟩ | ⟨k1, rfl, s1⟩ <;> rcases key _ _ _ _ hhi h2 with ⟨rfl, e2, q2⟩ | ⟨k2, rfl, s2⟩ <;> rcases key _ _ _ _ hmx h3 with ⟨rfl, e3, q3⟩ | ⟨k3, rfl, s3⟩
  all_goals first
    | (exfalso; have := hm s3; rw [q2] at this; simp at this; done)
    | (first
        | (have z1 : l.toNat = 0 := by omega
           rw [z1])
        | skip
       first
        | (have z2 : h.toNat = len := by omega
           have n8 : ¬ (len : Int) < l := by omega
           have n9 : l ≤ len := by omega
           rw [z2])
        | (have n8 : True := trivial
           have n9 : True := trivial)
       first
        | (have z3 : m.toNat = cap := by omega
           rw [z3])
        | skip
       simp [Instr.sliceBounds, Instr.sliceBound, asIntOf, a1, a4, b1, b2, n4, n5, n6, n7, n8, n9, p4, p5, p7]
       done)

theorem run_sliceAt_of {T : TypeId} {e : TypeId} (hund : P.underlying T = some (.slice e)) (x : Value) (lo hi mx : Option Value) : (Instr.sliceAt T x lo hi mx).run P w = (Instr.slice T x lo hi mx).run P w := by
  simp [Instr.sliceAt, run_underlying hund]

theorem Rep.sub_sl (hI : ImmOk I w) {full : Bool} {rows : List (List D)} {x : Value} (h : Rep I ρ (.sl full rows) x) {sz : Nat} (hsz : rows = [] ∨ ∃ row ∈ rows, row.length = sz) (l n : Nat) (hn : l + n ≤ rows.length) :
    ∃ ad cap, x = .slice ad rows.length cap ∧ ∀ m, (m = cap → full = true → True) → l + n ≤ m → m ≤ cap → ∀ f' : Bool, (f' = true → m = l + n) →
      Rep I ρ (.sl f' ((rows.drop l).take n)) (.slice (if m = l then ad else ad.map (·.add (l * sz))) n (m - l)) := by
  have hlen : ((rows.drop l).take n).length = n := by simp; omega
  cases h with
  | nil _ _ ad cap hf =>
    refine ⟨ad, cap, rfl, fun m _ h1 h2 f' hf' => ?_⟩
    simp at hn
    obtain ⟨rfl, rfl⟩ : l = 0 ∧ n = 0 := by omega
    exact .nil _ _ _ _ (fun q => by have := hf' q; omega)
  | sl _ _ _ b o cap sz' c hI' hs hc hcap hf hone hh =>
    refine ⟨_, cap, rfl, fun m _ h1 h2 f' hf' => ?_⟩
    by_cases hn0 : n = 0
    · subst hn0
      simp only [List.take_zero]
      exact .nil _ _ _ _ (fun q => by have := hf' q; omega)
    · have hml : m ≠ l := by omega
      have hsz' : sz' = sz := by
        rcases hsz with e | ⟨row, hr, e⟩
        · subst e; simp at hn; omega
        · rw [← hs row hr, e]
      subst hsz'
      have e1 : (Option.map (fun x : Addr => x.add (l * sz')) (some (⟨b, o, none⟩ : Addr))) = some ⟨b, o + l * sz', none⟩ := by simp [Addr.add_lit]
      rw [if_neg hml, e1]
      have hle : (l + n) * sz' ≤ rows.length * sz' := Nat.mul_le_mul_right _ hn
      rw [Nat.add_mul] at hle
      have := Rep.sl (I := I) ρ f' ((rows.drop l).take n) b (o + l * sz') (m - l) sz' c hI' (fun row hr => hs row (List.mem_of_mem_drop (List.mem_of_mem_take hr))) (by rw [hlen]; omega) (by rw [hlen]; omega)
        (fun q => by rw [hlen]; have := hf' q; omega) (fun j x hj hx => hone (l * sz' + j) x (by rw [hlen] at hj; omega) (by rw [← Nat.add_assoc]; exact hx))
        (fun i j row d x hr hd hx => by
          rw [List.getElem?_take] at hr
          split at hr
          · rw [List.getElem?_drop] at hr
            refine hh (l + i) j row d x hr hd ?_
            rw [Nat.add_mul, ← Nat.add_assoc]; exact hx
          · cases hr)
      rw [hlen] at this
      exact this

theorem run_valSlice (ht : TTok P tt) (h : RB E st a w ρ I) {T : TypeId} {x r : D} {lo hi mx : Option D} {p : Prop} {u : Value} {lov hiv mxv : Option Value} (hv : valSlice tt st T x lo hi mx = some (p, r)) (hp : p)
    (hu : Rep I ρ x u) (hlo : RepO I ρ lo lov) (hhi : RepO I ρ hi hiv) (hmx : RepO I ρ mx mxv) : ∃ z, (Instr.sliceAt T u lov hiv mxv).run P w = .ok z w ∧ Rep I ρ r z := by
  unfold valSlice at hv
  split at hv
  · rename_i e full rows hT
    cases hT' : tt T with
    | none => simp [hT'] at hT
    | some si =>
      simp only [hT', Option.map_some, Option.some.injEq] at hT
      have hund := und_of ht hT'
      rw [hT] at hund
      rw [run_sliceAt_of hund]
      split at hv
      · rename_i ei l hh hei hl hhh
        simp only [Option.some.injEq, Prod.mk.injEq] at hv
        obtain ⟨rfl, rfl⟩ := hv
        obtain ⟨⟨h1, h2, h3⟩, hsz⟩ := hp
        obtain ⟨ad, cap, rfl, hrep⟩ := hu.sub_sl h.mem.imm hsz l.toNat (hh.toNat - l.toNat) (by omega)
        have hcap : rows.length ≤ cap := by
          obtain ⟨_, _, e1, e2, _⟩ := rows_of_sl h.mem.imm hu
          cases e1; exact e2
        have hfull : full = true → cap = rows.length := by
          obtain ⟨_, _, e1, _, e2, _⟩ := rows_of_sl h.mem.imm hu
          cases e1; exact e2
        have hb := run_bnds (P := P) (w := w) (isSlice := true) (len := rows.length) (cap := cap) (m := cap) hlo hhi hmx hl hhh rfl (by simp) h1 h2 (by omega) (by omega)
        have hr := hrep cap (by simp) (by omega) (Nat.le_refl _) (full && hi.isNone) (fun q => by
          simp only [Bool.and_eq_true, Option.isNone_iff_eq_none] at q
          obtain ⟨q1, rfl⟩ := q
          simp [bnd] at hhh
          have := hfull q1; omega)
        refine ⟨_, ?_, hr⟩
        simp [Instr.slice, run_underlying hund, hb, run_sizeOf ht hei]
      · rename_i ei l hh k m hei hl hhh
        simp only [Option.some.injEq, Prod.mk.injEq] at hv
        obtain ⟨rfl, rfl⟩ := hv
        obtain ⟨⟨h1, h2, h3, h4⟩, h5, hsz⟩ := hp
        obtain ⟨ad, cap, rfl, hrep⟩ := hu.sub_sl h.mem.imm hsz l.toNat (hh.toNat - l.toNat) (by omega)
        have hcap : rows.length ≤ cap := by
          obtain ⟨_, _, e1, e2, _⟩ := rows_of_sl h.mem.imm hu
          cases e1; exact e2
        have hb := run_bnds (P := P) (w := w) (isSlice := true) (len := rows.length) (cap := cap) (m := m) hlo hhi hmx hl hhh rfl (fun _ => h5) h1 h2 (by omega) (by omega)
        have hr := hrep m.toNat (by simp) (by omega) (by omega) true (fun q => by omega)
        refine ⟨_, ?_, hr⟩
        simp [Instr.slice, run_underlying hund, hb, run_sizeOf ht hei]
      · cases hv
  · rename_i e id off len hT
    cases hT' : tt T with
    | none => simp [hT'] at hT
    | some si =>
      simp only [hT', Option.map_some, Option.some.injEq] at hT
      have hund := und_of ht hT'
      rw [hT] at hund
      rw [run_sliceAt_of hund]
      split at hv
      · rename_i ei o l hh hei ho hl hhh
        simp only [Option.some.injEq, Prod.mk.injEq] at hv
        obtain ⟨rfl, rfl⟩ := hv
        obtain ⟨h1, h2, h3, h4⟩ := hp
        obtain ⟨lc, hlc, hlaid⟩ := h.mem.laid id o ho
        have hc := hlaid.cap
        cases hu with
        | own _ _ _ _ l' ad hl' hcap ha =>
          rw [hlc] at hl'; cases hl'
          have hb := run_bnds (P := P) (w := w) (isSlice := true) (len := len) (cap := lc.cap - off) (m := ((lc.cap - off : Nat) : Int)) hlo hhi hmx hl hhh rfl (by simp) h1 h2 (by omega) (by omega)
          refine ⟨.slice (if lc.cap - off = l.toNat then ad else ad.map (·.add (l.toNat * ei.sz))) (hh.toNat - l.toNat) (lc.cap - (off + l.toNat)), ?_, .own _ _ _ _ lc _ hlc (by omega) ?_⟩
          · simp [Instr.slice, run_underlying hund, hb, run_sizeOf ht hei]
            omega
          · rcases ha with ha | ⟨b, hb', rfl⟩
            · left; omega
            · by_cases hq : lc.cap - off = l.toNat
              · left; omega
              · right
                refine ⟨b, hb', ?_⟩
                rw [if_neg hq]
                simp [Addr.add_lit, hlaid.sz, h4, Nat.add_mul, Nat.add_assoc]
      · rename_i ei o l hh k m hei ho hl hhh
        simp only [Option.some.injEq, Prod.mk.injEq] at hv
        obtain ⟨rfl, rfl⟩ := hv
        obtain ⟨h0, h1, h2, h3, h4⟩ := hp
        cases hu with
        | own _ _ _ _ l' ad hl' hcap ha =>
          have hb := run_bnds (P := P) (w := w) (isSlice := true) (len := len) (cap := l'.cap - off) (m := m) hlo hhi hmx hl hhh rfl (fun _ => h0) h1 (by omega) (by omega) (by omega)
          refine ⟨.slice (if m.toNat = l.toNat then ad else ad.map (·.add (l.toNat * ei.sz))) 0 0, ?_, .nil _ _ _ _ (by simp)⟩
          subst h2 h3
          simp [Instr.slice, run_underlying hund, hb, run_sizeOf ht hei]
      · cases hv
  · rename_i s hT
    cases hT' : tt T with
    | none => simp [hT'] at hT
    | some si =>
      simp only [hT', Option.map_some, Option.some.injEq] at hT
      have hund := und_of ht hT'
      rw [hT] at hund
      split at hv
      · rename_i l hh hl hhh
        simp only [Option.some.injEq, Prod.mk.injEq] at hv
        obtain ⟨rfl, rfl⟩ := hv
        obtain ⟨h1, h2, h3⟩ := hp
        cases rep_v_inv hu
        have hb := run_bnds (P := P) (w := w) (isSlice := false) (len := s.size) (cap := s.size) (m := s.size) hlo hhi hmx hl hhh rfl (by simp) h1 h2 (by omega) (by omega)
        have hmn : mxv = none := by cases mxv <;> simp [RepO] at hmx; rfl
        subst hmn
        exact ⟨_, by simp [Instr.sliceAt, Instr.slice, run_underlying hund, hb], .v _ _⟩
      · cases hv
  · cases hv

/-! ### lengths, extremes -/

def valLen (tt : TypeId → Option TI) (T : TypeId) (x : D) : Option (Prop × D) :=
  match (tt T).map TI.und, x with
  | some (.slice _), .sl _ rows => some (True, .v (.int .i64 rows.length))
  | some (.slice _), .own _ _ len => some (True, .v (.int .i64 len))
  | some .string, .v (.string s) => some (True, .v (.int .i64 s.size))
  | some (.array n _), _ => some (True, .v (.int .i64 n))
  | _, _ => none

theorem run_valLen (ht : TTok P tt) (hI : ImmOk I w) {T ty : TypeId} {x r : D} {p : Prop} {u : Value} (hv : valLen tt T x = some (p, r)) (hu : Rep I ρ x u) :
    ∃ z, (Builtin.len_ #[T] ty #[u]).run P w = .ok z w ∧ Rep I ρ r z := by
  unfold valLen at hv
  cases hT' : tt T with
  | none => simp [hT'] at hv
  | some si =>
    have hund := und_of ht hT'
    simp only [hT', Option.map_some] at hv
    split at hv <;> simp only [Option.some.injEq, Prod.mk.injEq, reduceCtorEq] at hv
    · rename_i e full rows he
      obtain ⟨rfl, rfl⟩ := hv
      simp only [Option.some.injEq] at he
      rw [he] at hund
      obtain ⟨ad, cap, rfl, _⟩ := rows_of_sl hI hu
      exact ⟨_, by simp [Builtin.len_, run_underlying hund, goInt], .v _ _⟩
    · rename_i e id off len he
      obtain ⟨rfl, rfl⟩ := hv
      simp only [Option.some.injEq] at he
      rw [he] at hund
      cases hu with
      | own _ _ _ _ l' ad hl' hcap ha => exact ⟨_, by simp [Builtin.len_, run_underlying hund, goInt], .v _ _⟩
    · rename_i s he
      obtain ⟨rfl, rfl⟩ := hv
      simp only [Option.some.injEq] at he
      rw [he] at hund
      cases rep_v_inv hu
      exact ⟨_, by simp [Builtin.len_, run_underlying hund, goInt], .v _ _⟩
    · rename_i n e _ he
      obtain ⟨rfl, rfl⟩ := hv
      simp only [Option.some.injEq] at he
      rw [he] at hund
      exact ⟨_, by simp [Builtin.len_, run_underlying hund, goInt], .v _ _⟩

def valMin : List D → Option (Prop × D)
  | [.v (.int k x), .v (.int _ y)] => some (True, .v (.int k (if y < x then y else x)))
  | _ => none
def valMax : List D → Option (Prop × D)
  | [.v (.int k x), .v (.int _ y)] => some (True, .v (.int k (if y > x then y else x)))
  | _ => none

/-- What a list of operands stands for. -/
def RepL (I : Imm) (ρ : Locs) : List D → List Value → Prop
  | [], [] => True
  | d :: ds, x :: xs => Rep I ρ d x ∧ RepL I ρ ds xs
  | _, _ => False

theorem RepL.get : ∀ {ds : List D} {xs : List Value}, RepL I ρ ds xs → ds.length = xs.length ∧ ∀ (i : Nat) (d : D) (x : Value), ds[i]? = some d → xs[i]? = some x → Rep I ρ d x
  | [], [], _ => by simp
  | d :: ds, x :: xs, h => by
    obtain ⟨h1, h2⟩ := RepL.get h.2
    refine ⟨by simp [h1], fun i d' x' q1 q2 => ?_⟩
    cases i with
    | zero => simp at q1 q2; subst q1; subst q2; exact h.1
    | succ i => exact h2 i d' x' (by simpa using q1) (by simpa using q2)
  | [], _ :: _, h => by simp [RepL] at h
  | _ :: _, [], h => by simp [RepL] at h

theorem run_valMin {ds : List D} {r : D} {p : Prop} {xs : List Value} {tys : Array TypeId} {ty : TypeId} (hv : valMin ds = some (p, r)) (hu : RepL I ρ ds xs) :
    ∃ z, (Builtin.min_ tys ty xs.toArray).run P w = .ok z w ∧ Rep I ρ r z := by
  unfold valMin at hv
  split at hv
  · obtain ⟨h1, h2⟩ := RepL.get hu
    match xs, hu with
    | [x, y], hu =>
      obtain ⟨q1, q2, _⟩ := hu
      cases rep_v_inv q1; cases rep_v_inv q2
      simp only [Option.some.injEq, Prod.mk.injEq] at hv
      obtain ⟨rfl, rfl⟩ := hv
      exact ⟨_, by simp [Builtin.min_, Builtin.min2], .v _ _⟩
  · cases hv
theorem run_valMax {ds : List D} {r : D} {p : Prop} {xs : List Value} {tys : Array TypeId} {ty : TypeId} (hv : valMax ds = some (p, r)) (hu : RepL I ρ ds xs) :
    ∃ z, (Builtin.max_ tys ty xs.toArray).run P w = .ok z w ∧ Rep I ρ r z := by
  unfold valMax at hv
  split at hv
  · obtain ⟨h1, h2⟩ := RepL.get hu
    match xs, hu with
    | [x, y], hu =>
      obtain ⟨q1, q2, _⟩ := hu
      cases rep_v_inv q1; cases rep_v_inv q2
      simp only [Option.some.injEq, Prod.mk.injEq] at hv
      obtain ⟨rfl, rfl⟩ := hv
      exact ⟨_, by simp [Builtin.max_, Builtin.max2], .v _ _⟩
  · cases hv

/-! ### conversions -/

def byteRow : List D → UInt8
  | [.v (.int .u8 n)] => UInt8.ofNat n.toNat
  | _ => 0

def convBytes (tt : TypeId → Option TI) (st : St) (e : TypeId) (d : D) : Option (Prop × D) :=
  match (tt e).map TI.und, st.rowsOf d with
  | some (.int .u8), some (p, rows) => some (p ∧ ∀ row ∈ rows, ∃ n, row = [.v (.int .u8 n)], .v (.string ⟨(rows.map byteRow).toArray⟩))
  | _, _ => none

def isSliceT : TypeDesc → Option TypeId
  | .slice e => some e
  | _ => none

def valConvert (tt : TypeId → Option TI) (st : St) (src dst : TypeId) (x : D) : Option (Prop × D) :=
  match tt src, tt dst with
  | some si, some di => match di.und with
    | .int k => match x with
      | .v (.int _ n) => some (True, .v (.int k (k.wrap n)))
      | _ => none
    | .string => match isSliceT si.und with
      | some e => convBytes tt st e x
      | none => match x with
        | .v (.string s) => some (True, .v (.string s))
        | _ => none
    | _ => none
  | _, _ => none

theorem foldl_push (ns : List Int) (s : ByteArray) : ns.foldl (fun (r : ByteArray) n => r.push (UInt8.ofNat n.toNat)) s = ⟨s.data ++ (ns.map fun n => UInt8.ofNat n.toNat).toArray⟩ := by
  induction ns generalizing s with
  | nil => simp
  | cons n ns ih =>
    simp only [List.foldl_cons, ih, List.map_cons]
    congr 1
    simp [ByteArray.push]

theorem run_bytes_of_rows {rows : List (List D)} {b o cap : Nat} (h : Rows I ρ w rows 1 b o) (hb : ∀ row ∈ rows, ∃ n, row = [.v (.int .u8 n)]) :
    (Conv.bytesToString (.slice (some ⟨b, o, none⟩) rows.length cap)).run P w = .ok (.string ⟨(rows.map byteRow).toArray⟩) w := by
  obtain ⟨cs, c1, c2, c3⟩ := h.load
  have hns : ∃ ns : List Int, rows = ns.map fun n => [D.v (.int .u8 n)] := by
    clear c1 c2 c3 h
    induction rows with
    | nil => exact ⟨[], rfl⟩
    | cons r rs ih =>
      obtain ⟨ns, hns⟩ := ih (fun row hr => hb row (by simp [hr]))
      obtain ⟨n, hn⟩ := hb r (by simp)
      exact ⟨n :: ns, by simp [hn, hns]⟩
  obtain ⟨ns, rfl⟩ := hns
  simp only [List.length_map, Nat.mul_one] at c1 ⊢
  have hcs : cs = ns.map (Value.int .u8) := by
    apply List.ext_getElem?
    intro i
    by_cases hi : i < ns.length
    · have hi' : i < cs.length := by omega
      have := c3 i 0 [.v (.int .u8 ns[i])] _ cs[i] (by simp [hi]) rfl (by simp [List.getElem?_eq_getElem hi'])
      rw [List.getElem?_eq_getElem hi', rep_v_inv this]
      simp [hi]
    · rw [List.getElem?_eq_none (by omega), List.getElem?_eq_none (by simp; omega)]
  have hl := run_loadCells_list (P := P) w ⟨b, o, none⟩ cs (fun j v hv => (c2 j v hv).1)
  rw [c1, hcs] at hl
  rw [run_bytesToString w _ _ _ ns hl, foldl_push]
  congr 3
  simp [byteRow]

theorem isSliceT_inv {d : TypeDesc} {e : TypeId} (h : isSliceT d = some e) : d = .slice e := by
  cases d <;> simp [isSliceT] at h
  subst h; rfl

theorem run_convBytes (ht : TTok P tt) (h : RB E st a w ρ I) {src dst e : TypeId} {x r : D} {p : Prop} {u : Value} (hv : convBytes tt st e x = some (p, r)) (hp : p) (hu : Rep I ρ x u)
    (hus : P.underlying src = some (.slice e)) (hud : P.underlying dst = some .string) : ∃ z, (convert src dst u).run P w = .ok z w ∧ Rep I ρ r z := by
  unfold convBytes at hv
  cases he : tt e with
  | none => simp [he] at hv
  | some ei =>
    simp only [he, Option.map_some] at hv
    split at hv
    · rename_i q rows hei hrows
      simp only [Option.some.injEq] at hei
      simp only [Option.some.injEq, Prod.mk.injEq] at hv
      obtain ⟨rfl, rfl⟩ := hv
      have hue := und_of ht he
      rw [hei] at hue
      obtain ⟨ad, cap, rfl, hcap, hr⟩ := h.rowsOf hrows hp.1 hu
      refine ⟨_, ?_, .v _ _⟩
      rw [run_convert_bytes_string w src dst e ad _ cap hus hue hud]
      by_cases hne : rows = []
      · subst hne
        cases ad with
        | none => simp [Conv.bytesToString]; rfl
        | some ad => simp [Conv.bytesToString, loadCells, loadCellsFrom]; rfl
      · obtain ⟨b, o, sz, rfl, hrs⟩ := hr hne
        have hsz : sz = 1 := by
          cases rows with
          | nil => exact absurd rfl hne
          | cons r rs =>
            obtain ⟨n, hn⟩ := hp.2 r (by simp)
            rw [← hrs.len r (by simp), hn]; rfl
        subst hsz
        exact run_bytes_of_rows hrs hp.2
    · cases hv

theorem run_valConvert (ht : TTok P tt) (h : RB E st a w ρ I) {src dst : TypeId} {x r : D} {p : Prop} {u : Value} (hv : valConvert tt st src dst x = some (p, r)) (hp : p) (hu : Rep I ρ x u) :
    ∃ z, (convert src dst u).run P w = .ok z w ∧ Rep I ρ r z := by
  unfold valConvert at hv
  cases hs : tt src with
  | none => simp [hs] at hv
  | some si =>
    cases hd : tt dst with
    | none => simp [hs, hd] at hv
    | some di =>
      have hus := und_of ht hs
      have hud := und_of ht hd
      simp only [hs, hd] at hv
      cases hdu : di.und with
      | int k =>
        simp only [hdu] at hv
        rw [hdu] at hud
        split at hv
        · simp only [Option.some.injEq, Prod.mk.injEq] at hv
          obtain ⟨rfl, rfl⟩ := hv
          cases rep_v_inv hu
          refine ⟨_, ?_, .v _ _⟩
          simp [convert, run_underlying hus, run_underlying hud, Conv.intToInt]
        · cases hv
      | string =>
        simp only [hdu] at hv
        rw [hdu] at hud
        cases hsl : isSliceT si.und with
        | some e =>
          simp only [hsl] at hv
          rw [isSliceT_inv hsl] at hus
          exact run_convBytes ht h hv hp hu hus hud
        | none =>
          simp only [hsl] at hv
          split at hv
          · simp only [Option.some.injEq, Prod.mk.injEq] at hv
            obtain ⟨rfl, rfl⟩ := hv
            cases rep_v_inv hu
            refine ⟨_, ?_, .v _ _⟩
            simp only [convert, Sem.run_bind, run_underlying hus, run_underlying hud, Result.andThen_ok]
            cases hsu : si.und <;> first | rfl | (simp [hsu, isSliceT] at hsl)
          · cases hv
      | _ => simp [hdu] at hv

end
end Go.Ab
