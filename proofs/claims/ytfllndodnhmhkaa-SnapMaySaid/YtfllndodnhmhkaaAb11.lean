/-
  ABSTRACT DATA FOR WALKS, 11: one operation whole; objects handed over; contracts of functions.
-/
import Derived.Test.YtfllndodnhmhkaaAb10
namespace Go.Ab
set_option linter.unusedSimpArgs false
set_option linter.unusedVariables false

section
variable {P : Program} {E : Ent} {st : St} {a : Act} {w : World} {ρ : Locs} {I : Imm} {tt : TypeId → Option TI}

/-- An operation, but for its guard and its slot: what must hold, the state, what it comes to. -/
def exec1 (tt : TypeId → Option TI) (id : Nat) (st : St) (o : Op) : Option (Prop × St × D) :=
  match val tt st o with
  | some (p, d) => some (p, st, d)
  | none => hop tt id st o

theorem run_equalIn_sl (d : Nat) {T e : TypeId} (h : P.underlying T = some (.slice e)) (b : Option Addr) (n c : Nat) : (Op.equalIn (d + 1) T (.slice b n c) (.slice none 0 0)).run P w = .ok b.isNone w := by
  cases b <;> simp [Op.equalIn, run_underlying h]
theorem run_eql_sl {T e : TypeId} (h : P.underlying T = some (.slice e)) (b : Option Addr) (n c : Nat) : (binOp .eql T (.slice b n c) (.slice none 0 0)).run P w = .ok (.bool b.isNone) w := by
  simp only [binOp]
  simp [Op.equal, Op.maxDepth, run_equalIn_sl 9999 h]
theorem run_neq_sl {T e : TypeId} (h : P.underlying T = some (.slice e)) (b : Option Addr) (n c : Nat) : (binOp .neq T (.slice b n c) (.slice none 0 0)).run P w = .ok (.bool !b.isNone) w := by
  simp only [binOp]
  simp [Op.equal, Op.maxDepth, run_equalIn_sl 9999 h]

theorem run_hopNil (ht : TTok P tt) (h : RB E st a w ρ I) {op : BinOp} {T yt : TypeId} {x y : Operand} {p : Prop} {st1 : St} {d : D} (hv : hopNil tt st op T (st.ev x) y = some (p, st1, d)) :
    ∃ v, (do eqGuard op T x y (a.eval x) (a.eval y); binOp op T (a.eval x) (a.eval y) : Sem Value).run P w = .ok v w ∧ Did E st1 a d v w := by
  unfold hopNil at hv
  split at hv
  · rename_i hx
    have hu := rep_v_inv (h.ev hx)
    have hy : a.eval (.const (.slice none 0 0)) = .slice none 0 0 := rfl
    split at hv
    · rename_i e he
      have hund := slice_und ht he
      split at hv <;> simp only [Option.some.injEq, Prod.mk.injEq, reduceCtorEq] at hv
      · obtain ⟨-, rfl, rfl⟩ := hv
        refine ⟨.bool true, ?_, ρ, I, h, .v _ _⟩
        rw [hu, hy, Sem.run_bind, run_eqGuard_plain (by simp) (by simp), Result.andThen_ok, run_eql_sl hund]
        rfl
      · obtain ⟨-, rfl, rfl⟩ := hv
        refine ⟨.bool false, ?_, ρ, I, h, .v _ _⟩
        rw [hu, hy, Sem.run_bind, run_eqGuard_plain (by simp) (by simp), Result.andThen_ok, run_neq_sl hund]
        rfl
    · cases hv
  · cases hv

theorem RB.exec1 (ht : TTok P tt) (h : RB E st a w ρ I) {id : Nat} {o : Oper} {p : Prop} {st1 : St} {d : D} (hv : Go.Ab.exec1 tt id st o.op = some (p, st1, d)) (hp : p) :
    ∃ nx v w', (execOp a.eval o).run P w = .ok nx w' ∧ (nx = .value v ∨ (nx = .skip ∧ v = undef)) ∧ Did E st1 a d v w' := by
  unfold Go.Ab.exec1 at hv
  split at hv
  · rename_i q d' he
    simp only [Option.some.injEq, Prod.mk.injEq] at hv
    obtain ⟨rfl, rfl, rfl⟩ := hv
    obtain ⟨z, z1, z2⟩ := h.val ht he hp
    exact ⟨_, z, w, z1, .inl rfl, ρ, I, h, z2⟩
  · clear ‹Go.Ab.val tt st o.op = none›
    unfold execOp
    cases ho : o.op <;> simp only [ho, hop] at hv ⊢ <;> try (cases hv; done)
    case binOp op T x y yt =>
      obtain ⟨v, r1, r2⟩ := run_hopNil (yt := yt) ht h hv
      refine ⟨_, v, w, ?_, .inl rfl, r2⟩
      rw [Sem.run_bind, r1]
      rfl
    case alloc T =>
      obtain ⟨v, w', r1, r2⟩ := run_hopAlloc ht h hv hp
      exact ⟨_, v, w', by simp [r1], .inl rfl, r2⟩
    case box T x =>
      split at hv
      · rename_i dx hx
        obtain ⟨v, w', r1, r2⟩ := run_hopBox ht h hv hp (h.ev hx)
        exact ⟨_, v, w', by simp [r1], .inl rfl, r2⟩
      · cases hv
    case buildSlice T len parts =>
      split at hv
      · rename_i ds hds
        obtain ⟨v, w', r1, r2⟩ := run_hopBuildSlice ht h hv hp (h.evL hds)
        exact ⟨_, v, w', by simp [r1], .inl rfl, r2⟩
      · cases hv
    case makeSlice T l c =>
      split at hv
      · rename_i dl dc hl hc
        obtain ⟨v, w', r1, r2⟩ := run_hopMakeSlice ht h hv hp (h.ev hl) (h.ev hc)
        exact ⟨_, v, w', by simp [r1], .inl rfl, r2⟩
      · cases hv
    case store T ad x =>
      split at hv
      · rename_i da dx hda hdx
        obtain ⟨w', r1, r2, J, r3⟩ := run_hopStore ht h hv hp (h.ev hda) (h.ev hdx)
        subst r2
        exact ⟨_, undef, w', by simp [r1], .inr ⟨rfl, rfl⟩, ρ, J, r3, .junk _ _⟩
      · cases hv
    case convert src dst x =>
      split at hv
      · rename_i dx hx
        obtain ⟨v, w', r1, r2⟩ := run_hopConv ht h hv hp (h.ev hx)
        exact ⟨_, v, w', by simp [r1], .inl rfl, r2⟩
      · cases hv
    case call c =>
      obtain ⟨callee, args, argTypes⟩ := c
      simp only at hv ⊢
      split at hv
      · rename_i s x T X ha hT
        have ha' : args = #[s, x] := by apply Array.ext'; exact ha
        have hT' : argTypes = #[T, X] := by apply Array.ext'; exact hT
        subst ha' hT'
        split at hv
        · rename_i ds dx hs hx
          obtain ⟨v, w', r1, r2⟩ := run_hopAppend (ty := o.type) ht h hv hp (h.ev hs) (h.ev hx)
          exact ⟨_, v, w', by simp [resolve, invoke, builtin, r1], .inl rfl, r2⟩
        · cases hv
      · rename_i s x T X ha hT
        have ha' : args = #[s, x] := by apply Array.ext'; exact ha
        have hT' : argTypes = #[T, X] := by apply Array.ext'; exact hT
        subst ha' hT'
        split at hv
        · rename_i ds dx hs hx
          obtain ⟨v, w', r1, r2⟩ := run_hopCopy (ty := o.type) ht h hv hp (h.ev hs) (h.ev hx)
          exact ⟨_, v, w', by simp [resolve, invoke, builtin, r1], .inl rfl, r2⟩
        · cases hv
      · cases hv

end

/-! ### ids written otherwise -/

mutual
def D.ren (σ : Nat → Nat) : D → D
  | .own id off len => .own (σ id) off len
  | .ptr id i j => .ptr (σ id) i j
  | .agg cs => .agg (D.renL σ cs)
  | .tup cs => .tup (D.renL σ cs)
  | .fn f nf cs => .fn f nf (D.renL σ cs)
  | d => d
def D.renL (σ : Nat → Nat) : List D → List D
  | [] => []
  | d :: ds => D.ren σ d :: D.renL σ ds
end

theorem D.renL_length (σ : Nat → Nat) : ∀ cs : List D, (D.renL σ cs).length = cs.length
  | [] => rfl
  | c :: cs => by simp [D.renL, D.renL_length σ cs]
theorem D.renL_get (σ : Nat → Nat) : ∀ (cs : List D) (i : Nat), (D.renL σ cs)[i]? = cs[i]?.map (D.ren σ)
  | [], i => by simp [D.renL]
  | c :: cs, 0 => by simp [D.renL]
  | c :: cs, i + 1 => by simp [D.renL, D.renL_get σ cs i]

def AObj.ren (σ : Nat → Nat) (o : AObj) : AObj := if o.flat then o else { o with rows := o.rows.map (D.renL σ) }

theorem AObj.ren_wr {σ : Nat → Nat} {o : AObj} : (o.ren σ).wr = o.wr := by unfold AObj.ren; split <;> rfl
theorem AObj.ren_sz {σ : Nat → Nat} {o : AObj} : (o.ren σ).sz = o.sz := by unfold AObj.ren; split <;> rfl
theorem AObj.ren_flat {σ : Nat → Nat} {o : AObj} : (o.ren σ).flat = o.flat := by unfold AObj.ren; split <;> rfl
theorem AObj.ren_pin {σ : Nat → Nat} {o : AObj} : (o.ren σ).pin = o.pin := by unfold AObj.ren; split <;> rfl

theorem Rep.ren {I : Imm} {ρ ρ' : Locs} {σ : Nat → Nat} (hσ : ∀ j l, ρ j = some l → ρ' (σ j) = some l) {d : D} {x : Value} (h : Rep I ρ d x) : Rep I ρ' (d.ren σ) x := by
  induction h with
  | v ρ x => exact .v _ x
  | agg ρ cs vs hl _ ih =>
    refine .agg _ _ vs (by rw [D.renL_length]; exact hl) fun i d x h1 h2 => ?_
    rw [D.renL_get] at h1
    cases h3 : cs[i]? with
    | none => simp [h3] at h1
    | some d' => simp [h3] at h1; exact h1 ▸ ih i d' x h3 h2 hσ
  | tup ρ cs vs hl _ ih =>
    refine .tup _ _ vs (by rw [D.renL_length]; exact hl) fun i d x h1 h2 => ?_
    rw [D.renL_get] at h1
    cases h3 : cs[i]? with
    | none => simp [h3] at h1
    | some d' => simp [h3] at h1; exact h1 ▸ ih i d' x h3 h2 hσ
  | nil ρ f a cap hf => exact .nil _ f a cap hf
  | sl ρ f rows b o cap sz c hI hsz hc hcap hf h1 h _ => exact .sl _ f rows b o cap sz c hI hsz hc hcap hf h1 h
  | ref ρ row k b o c hI hc h1 h _ => exact .ref _ row k b o c hI hc h1 h
  | own ρ id off len l a hl hcap ha => exact .own _ _ off len l a (hσ _ _ hl) hcap ha
  | ptr ρ id i k b l hl hb => exact .ptr _ _ i k b l (hσ _ _ hl) hb
  | fn ρ f nf cs fs vs hn hl _ ih =>
    refine .fn _ f _ _ fs vs hn (by rw [D.renL_length]; exact hl) fun i d x h1 h2 => ?_
    rw [D.renL_get] at h1
    cases h3 : cs[i]? with
    | none => simp [h3] at h1
    | some d' => simp [h3] at h1; exact h1 ▸ ih i d' x h3 h2 hσ
  | junk ρ x => exact .junk _ x

mutual
theorem Rep.unren {I : Imm} {ρ : Locs} {σ : Nat → Nat} : ∀ (d : D) {x : Value}, Rep I ρ (d.ren σ) x → Rep I (fun j => ρ (σ j)) d x
  | .v y, x, h => by cases h; exact .v _ _
  | .agg cs, x, h => by
    cases h with
    | agg _ _ vs hl hh =>
      rw [D.renL_length] at hl
      exact .agg _ _ vs hl fun i d y h1 h2 => Rep.unrenL cs hh i d y h1 h2
  | .tup cs, x, h => by
    cases h with
    | tup _ _ vs hl hh =>
      rw [D.renL_length] at hl
      exact .tup _ _ vs hl fun i d y h1 h2 => Rep.unrenL cs hh i d y h1 h2
  | .sl f rows, x, h => by
    have h' : Rep I ρ (.sl f rows) x := h
    cases h' with
    | nil _ _ a cap hf => exact .nil _ f a cap hf
    | sl _ _ _ b o cap sz c hI hsz hc hcap hf h1 hh => exact .sl _ f rows b o cap sz c hI hsz hc hcap hf h1 hh
  | .ref row k, x, h => by
    have h' : Rep I ρ (.ref row k) x := h
    cases h' with
    | ref _ _ _ b o c hI hc h1 hh => exact .ref _ row k b o c hI hc h1 hh
  | .own id off len, x, h => by
    have h' : Rep I ρ (.own (σ id) off len) x := h
    cases h' with
    | own _ _ _ _ l a hl hcap ha => exact .own _ id off len l a hl hcap ha
  | .ptr id i k, x, h => by
    have h' : Rep I ρ (.ptr (σ id) i k) x := h
    cases h' with
    | ptr _ _ _ _ b l hl hb => exact .ptr _ id i k b l hl hb
  | .fn f nf cs, x, h => by
    cases h with
    | fn _ _ _ _ fs vs hn hl hh =>
      rw [D.renL_length] at hl
      exact .fn _ f _ _ fs vs hn hl fun i d y h1 h2 => Rep.unrenL cs hh i d y h1 h2
  | .junk, x, h => .junk _ _
theorem Rep.unrenL {I : Imm} {ρ : Locs} {σ : Nat → Nat} {vs : Array Value} : ∀ (cs : List D), (∀ (i : Nat) (d : D) (x : Value), (D.renL σ cs)[i]? = some d → vs[i]? = some x → Rep I ρ d x) →
    ∀ (i : Nat) (d : D) (x : Value), cs[i]? = some d → vs[i]? = some x → Rep I (fun j => ρ (σ j)) d x
  | [], _, i, d, x, h1, _ => by simp at h1
  | c :: cs, hh, 0, d, x, h1, h2 => by
    simp at h1; subst h1
    exact Rep.unren c (hh 0 _ x (by simp [D.renL]) h2)
  | c :: cs, hh, i + 1, d, x, h1, h2 => by
    have hsub : ∀ (k : Nat) (d : D) (x : Value), (D.renL σ cs)[k]? = some d → (vs.extract 1 vs.size)[k]? = some x → Rep I ρ d x := fun k d x q1 q2 => by
      refine hh (k + 1) d x (by simpa [D.renL] using q1) ?_
      rw [Array.getElem?_extract] at q2
      split at q2
      · rw [Nat.add_comm]; exact q2
      · cases q2
    refine Rep.unrenL (vs := vs.extract 1 vs.size) cs hsub i d x (by simpa using h1) ?_
    rw [Array.getElem?_extract, if_pos (by have := (Array.getElem?_eq_some_iff.1 h2).1; omega), Nat.add_comm]
    exact h2
end

/-! ### contracts -/

/-- A function that is handed data that nobody writes: what it comes to, and the objects that are its caller's then (no. j of them is id j of the result). -/
def Contract (P : Program) (f : FuncId) (ds : List D) (r : D) (objs : List AObj) : Prop :=
  ∀ (w : World) (I : Imm) (vs : List Value), ImmOk I w → RepL I noLocs ds vs → Calls P f vs.toArray w fun e w' => ∃ v ρ' I', e = .returned v ∧ (∀ b c, I b = some c → I' b = some c) ∧ (∀ b c, I' b = some c → I b = some c ∨ w.heap.size ≤ b) ∧
    Rep I' ρ' r v ∧ Mem I' ρ' (fun j => objs[j]?) w' ∧ (∀ j l, ρ' j = some l → j < objs.length) ∧ Ext (fun _ => False) w w' ∧ (∀ (j : Nat) o l b, objs[j]? = some o → o.wr = true → ρ' j = some l → l.blk = some b → w.heap.size ≤ b)

section
variable {P : Program} {E : Ent} {st : St} {a : Act} {w w' : World} {ρ : Locs} {I J : Imm} {tt : TypeId → Option TI}

/-- The world has grown elsewhere. -/
theorem RB.world (h : RB E st a w ρ I) (hx : Ext (fun _ => False) w w') (hI : ∀ b c, I b = some c → J b = some c) (hJ : ∀ b c, J b = some c → I b = some c ∨ w.heap.size ≤ b) (hok : ImmOk J w') : RB E st a w' ρ J where
  size := h.size
  defers := h.defers
  slots := fun t d hd => ⟨(h.slots t d hd).1, (h.slots t d hd).2.imm hI⟩
  mem := by
    refine ⟨fun id o ho => ?_, h.mem.apart, hok⟩
    obtain ⟨l, e, hl⟩ := h.mem.laid id o ho
    refine ⟨l, e, hl.kept hI (fun b hb => hx.block b (blk_lt hl hb) (by simp)) (fun b hb hm hn => ?_) (fun _ _ q => q.imm hI)⟩
    cases hJb : J b with
    | none => rfl
    | some c =>
      rcases hJ b c hJb with q | q
      · rw [hn] at q; cases q
      · have := blk_lt hl hb; omega
  i0 := fun b c q => hI b c (h.i0 b c q)
  i1 := fun b c q => by
    rcases hJ b c q with q | q
    · exact h.i1 b c q
    · right; right; have := h.ext.size; omega
  ext := h.ext.trans hx (by simp)
  fresh := h.fresh
  pins := h.pins

/-- An object that nobody else has is taken in under an id. -/
theorem RB.adopt (h : RB E st a w ρ I) {id : Nat} {o : AObj} {l : Loc} (hl : LaidObj I ρ w o l) (hap : ∀ b, l.blk = some b → o.wr = true → ∀ i2 o2 l2, i2 ≠ id → st.heap i2 = some o2 → o2.wr = true → ρ i2 = some l2 → l2.blk ≠ some b)
    (hfr : ∀ b, l.blk = some b → o.wr = true → E.M b ∨ E.w0.heap.size ≤ b) (hpin : o.pin = false := by rfl) : RB E (st.bind id o) a w (updL ρ id l) I where
  size := h.size
  defers := h.defers
  slots := by
    intro t d hd
    simp only [St.bind, killS] at hd
    cases h1 : st.slots t with
    | none => simp [h1] at hd
    | some d' =>
      simp [h1] at hd; subst hd
      obtain ⟨q1, q2⟩ := h.slots t d' h1
      exact ⟨q1, q2.kill updL_ne⟩
  mem := by
    refine ⟨?_, ?_, h.mem.imm⟩
    · intro id2 o2 h2
      simp only [St.bind, upd] at h2
      split at h2
      · rename_i e; subst e; cases h2
        exact ⟨l, updL_eq, hl.killed (fun _ _ => rfl) updL_ne⟩
      · rename_i hne
        obtain ⟨_, o', h3, rfl⟩ := killH_some h2
        obtain ⟨l2, e2, hlaid⟩ := h.mem.laid id2 o' h3
        exact ⟨l2, by rw [updL_ne _ hne]; exact e2, hlaid.killed (fun _ _ => rfl) updL_ne⟩
    · intro i1 o1 l1 i2 o2 l2 b h1 m1 e1 b1 h2 m2 e2 b2
      simp only [St.bind, upd] at h1 h2
      by_cases c1 : i1 = id <;> by_cases c2 : i2 = id
      · omega
      · subst c1
        simp only [if_true, Option.some.injEq] at h1
        simp only [c2, if_false] at h2
        rw [updL_eq] at e1; cases e1
        rw [updL_ne _ c2] at e2
        obtain ⟨_, o', h3, rfl⟩ := killH_some h2
        rw [← h1, AObj.kill_wr] at m1
        rw [AObj.kill_wr] at m2
        exact absurd b2 (hap b b1 m1 i2 o' l2 c2 h3 m2 e2)
      · subst c2
        simp only [if_true, Option.some.injEq] at h2
        simp only [c1, if_false] at h1
        rw [updL_eq] at e2; cases e2
        rw [updL_ne _ c1] at e1
        obtain ⟨_, o', h3, rfl⟩ := killH_some h1
        rw [← h2, AObj.kill_wr] at m2
        rw [AObj.kill_wr] at m1
        exact absurd b1 (hap b b2 m2 i1 o' l1 c1 h3 m1 e1)
      · simp only [c1, if_false] at h1
        simp only [c2, if_false] at h2
        rw [updL_ne _ c1] at e1
        rw [updL_ne _ c2] at e2
        obtain ⟨_, o1', h3, rfl⟩ := killH_some h1
        obtain ⟨_, o2', h4, rfl⟩ := killH_some h2
        rw [AObj.kill_wr] at m1 m2
        exact h.mem.apart _ _ _ _ _ _ _ h3 m1 e1 b1 h4 m2 e2 b2
  i0 := h.i0
  i1 := h.i1
  ext := h.ext
  fresh := by
    intro i2 o2 l2 b h2 m2 e2 b2
    simp only [St.bind, upd] at h2
    by_cases c2 : i2 = id
    · subst c2
      simp only [if_true, Option.some.injEq] at h2
      rw [updL_eq] at e2; cases e2
      rw [← h2, AObj.kill_wr] at m2
      exact hfr b b2 m2
    · simp only [c2, if_false] at h2
      rw [updL_ne _ c2] at e2
      obtain ⟨_, o', h3, rfl⟩ := killH_some h2
      rw [AObj.kill_wr] at m2
      exact h.fresh _ _ _ _ h3 m2 e2 b2
  pins := by
    intro i2 o2 h2 hp
    simp only [St.bind, upd] at h2
    by_cases c2 : i2 = id
    · subst c2
      simp only [if_true, Option.some.injEq] at h2
      rw [← h2, AObj.kill_pin, hpin] at hp; cases hp
    · simp only [c2, if_false] at h2
      rw [updL_ne _ c2]
      obtain ⟨_, o', h3, rfl⟩ := killH_some h2
      rw [AObj.kill_pin] at hp
      exact h.pins _ _ h3 hp

end
end Go.Ab
