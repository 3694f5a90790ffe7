/-
  ABSTRACT DATA FOR WALKS, 2: the state's relation to the machine is kept by what operations do to memory.
-/
import Derived.Test.YtfllndodnhmhkaaAb1
namespace Go.Ab
set_option linter.unusedSimpArgs false
set_option linter.unusedVariables false

def updL (ρ : Locs) (id : Nat) (l : Loc) : Locs := fun k => if k = id then some l else ρ k
theorem updL_ne {ρ : Locs} {id : Nat} {l : Loc} : ∀ k, k ≠ id → updL ρ id l k = ρ k := fun k h => by simp [updL, h]
theorem updL_eq {ρ : Locs} {id : Nat} {l : Loc} : updL ρ id l id = some l := by simp [updL]

theorem noLocs_kill {I : Imm} {ρ' : Locs} {d : D} {x : Value} (h : Rep I noLocs d x) : Rep I ρ' d x := by
  generalize hρ : noLocs = ρ at h
  induction h with
  | v ρ x => exact .v _ x
  | agg ρ cs vs hl _ ih => exact .agg _ cs vs hl fun i d x h1 h2 => ih i d x h1 h2 hρ
  | tup ρ cs vs hl _ ih => exact .tup _ cs vs hl fun i d x h1 h2 => ih i d x h1 h2 hρ
  | nil ρ f a cap hf => exact .nil _ f a cap hf
  | sl ρ f rows b o cap sz c hI hsz hc hcap hf h1 h _ => exact .sl _ f rows b o cap sz c hI hsz hc hcap hf h1 h
  | ref ρ row k b o c hI hc h1 h _ => exact .ref _ row k b o c hI hc h1 h
  | own ρ id off len l a hl hcap ha => subst hρ; simp [noLocs] at hl
  | ptr ρ id i k b l hl hb => subst hρ; simp [noLocs] at hl
  | fn ρ f nf cs fs vs hn hl _ ih => exact .fn _ f nf cs fs vs hn hl fun i d x h1 h2 => ih i d x h1 h2 hρ
  | junk ρ x => exact .junk _ x

theorem map_killL_get {k : Nat} {rows : List (List D)} {i j : Nat} {row : List D} {d : D} (h1 : (rows.map (D.killL k))[i]? = some row) (h2 : row[j]? = some d) :
    ∃ row' d', rows[i]? = some row' ∧ row'[j]? = some d' ∧ d = d'.kill k := by
  rw [List.getElem?_map] at h1
  cases h3 : rows[i]? with
  | none => simp [h3] at h1
  | some row' =>
    simp only [h3, Option.map_some, Option.some.injEq] at h1
    subst h1
    rw [D.killL_get] at h2
    cases h4 : row'[j]? with
    | none => simp [h4] at h2
    | some d' => simp only [h4, Option.map_some, Option.some.injEq] at h2; exact ⟨row', d', rfl, h4, h2.symm⟩

/-- An object that is not touched stays laid. -/
theorem LaidObj.kept {I J : Imm} {ρ ρ' : Locs} {w w' : World} {o : AObj} {l : Loc} (h : LaidObj I ρ w o l) (hI : ∀ b c, I b = some c → J b = some c)
    (hb : ∀ b, l.blk = some b → w'.heap[b]? = w.heap[b]?) (hm : ∀ b, l.blk = some b → o.wr = true → I b = none → J b = none)
    (hρ : ∀ d x, Rep I ρ d x → Rep J ρ' d x) : LaidObj J ρ' w' o l := by
  refine ⟨h.sz, h.pos, h.rows, h.cap, ?_⟩
  rcases h.mem with h0 | ⟨b, c, e, lo, hi, h1, h2, h3, h4, h5, h6, hone, h7⟩
  · exact .inl h0
  · refine .inr ⟨b, c, e, lo, hi, h1, (hb b h1).trans h2, h3, h4, fun q => hI _ _ (h5 q), fun q => hm b h1 q (h6 q), hone, fun i j row d x q1 q2 q3 => ?_⟩
    have := h7 i j row d x q1 q2 q3
    cases hf : o.flat with
    | true => simp only [hf, if_true] at this ⊢; exact this.imm hI
    | false => simp only [hf] at this ⊢; exact hρ d x this

theorem LaidObj.killed {I : Imm} {ρ ρ' : Locs} {k : Nat} {w w' : World} {o : AObj} {l : Loc} (h : LaidObj I ρ w o l)
    (hb : ∀ b, l.blk = some b → w'.heap[b]? = w.heap[b]?) (hρ : ∀ id, id ≠ k → ρ' id = ρ id) : LaidObj I ρ' w' (o.kill k) l := by
  cases hf : o.flat with
  | true =>
    have : o.kill k = o := by simp [AObj.kill, hf]
    rw [this]
    refine ⟨h.sz, h.pos, h.rows, h.cap, ?_⟩
    rcases h.mem with h0 | ⟨b, c, e, lo, hi, h1, h2, h3, h4, h5, h6, hone, h7⟩
    · exact .inl h0
    · refine .inr ⟨b, c, e, lo, hi, h1, (hb b h1).trans h2, h3, h4, h5, h6, hone, fun i j row d x q1 q2 q3 => ?_⟩
      have := h7 i j row d x q1 q2 q3
      simp only [hf, if_true] at this ⊢; exact this
  | false =>
    have e0 : o.kill k = { o with rows := o.rows.map (D.killL k) } := by simp [AObj.kill, hf]
    rw [e0]
    refine ⟨h.sz, h.pos, ?_, by simpa using h.cap, ?_⟩
    · intro row hr
      simp only [List.mem_map] at hr
      obtain ⟨row', hr', rfl⟩ := hr
      rw [D.killL_length]; exact h.rows _ hr'
    rcases h.mem with h0 | ⟨b, c, e, lo, hi, h1, h2, h3, h4, h5, h6, hone, h7⟩
    · exact .inl h0
    · refine .inr ⟨b, c, e, lo, hi, h1, (hb b h1).trans h2, h3, h4, h5, h6, hone, fun i j row d x q1 q2 q3 => ?_⟩
      obtain ⟨row', d', r1, r2, rfl⟩ := map_killL_get q1 q2
      have := h7 i j row' d' x r1 r2 q3
      simp only [hf] at this ⊢
      exact this.kill hρ

theorem AObj.kill_wr {k : Nat} {o : AObj} : (o.kill k).wr = o.wr := by unfold AObj.kill; split <;> rfl
theorem AObj.kill_sz {k : Nat} {o : AObj} : (o.kill k).sz = o.sz := by unfold AObj.kill; split <;> rfl
theorem AObj.kill_flat {k : Nat} {o : AObj} : (o.kill k).flat = o.flat := by unfold AObj.kill; split <;> rfl
theorem AObj.kill_pin {k : Nat} {o : AObj} : (o.kill k).pin = o.pin := by unfold AObj.kill; split <;> rfl

theorem killH_some {k : Nat} {f : Nat → Option AObj} {id : Nat} {o : AObj} (h : killH k f id = some o) : id ≠ k ∧ ∃ o', f id = some o' ∧ o = o'.kill k := by
  unfold killH at h
  split at h
  · simp at h
  · rename_i hne
    cases h1 : f id with
    | none => simp [h1] at h
    | some o' => simp [h1] at h; exact ⟨hne, o', rfl, h.symm⟩

/-- Where a new binding of an object may write: a new block, or the object's own old one. -/
structure Rebind (st : St) (w w' : World) (ρ : Locs) (id : Nat) (bn : Nat) : Prop where
  os : w'.os = w.os
  tape : w'.tape = w.tape
  output : w'.output = w.output
  size : w.heap.size ≤ w'.heap.size
  other : ∀ k, k ≠ bn → k < w.heap.size → w'.heap[k]? = w.heap[k]?
  at_ : w.heap.size ≤ bn ∨ ∃ o l, st.heap id = some o ∧ o.wr = true ∧ ρ id = some l ∧ l.blk = some bn

theorem blk_lt {I : Imm} {ρ : Locs} {w : World} {o : AObj} {l : Loc} {b : Nat} (h : LaidObj I ρ w o l) (hb : l.blk = some b) : b < w.heap.size := by
  rcases h.mem with h0 | ⟨b', c, e, lo, hi, h1, h2, _⟩
  · rw [h0.1] at hb; cases hb
  · have hbb : b' = b := by rw [h1] at hb; exact Option.some.inj hb
    subst hbb
    rcases Nat.lt_or_ge b' w.heap.size with h | h
    · exact h
    · simp [Array.getElem?_eq_none h] at h2

theorem ImmOk.lt {I : Imm} {w : World} (h : ImmOk I w) {b : Nat} {c : Array Value} (hb : I b = some c) : b < w.heap.size := by
  obtain ⟨e, fr, h1⟩ := h b c hb
  rcases Nat.lt_or_ge b w.heap.size with h | h
  · exact h
  · simp [Array.getElem?_eq_none h] at h1

theorem LaidObj.mutImm {I : Imm} {ρ : Locs} {w : World} {o : AObj} {l : Loc} {b : Nat} (h : LaidObj I ρ w o l) (hm : o.wr = true) (hb : l.blk = some b) : I b = none := by
  rcases h.mem with h0 | ⟨b', c, e, lo, hi, h1, h2, h3, h4, h5, h6, _⟩
  · rw [h0.1] at hb; cases hb
  · rw [h1] at hb; cases hb; exact h6 hm
theorem LaidObj.immImm {I : Imm} {ρ : Locs} {w : World} {o : AObj} {l : Loc} {b : Nat} (h : LaidObj I ρ w o l) (hm : o.wr = false) (hb : l.blk = some b) : ∃ c, I b = some c := by
  rcases h.mem with h0 | ⟨b', c, e, lo, hi, h1, h2, h3, h4, h5, h6, _⟩
  · rw [h0.1] at hb; cases hb
  · rw [h1] at hb; cases hb; exact ⟨c, h5 hm⟩

section
variable {E : Ent} {st : St} {a : Act} {w w' : World} {ρ : Locs} {I : Imm}

theorem Rebind.apart {id bn : Nat} (hr : Rebind st w w' ρ id bn) (h : RB E st a w ρ I) {id2 : Nat} {o2 : AObj} {l2 : Loc} {b2 : Nat}
    (h2 : st.heap id2 = some o2) (hl2 : ρ id2 = some l2) (hb2 : l2.blk = some b2) (hne : id2 ≠ id) : b2 ≠ bn := by
  obtain ⟨l, e1, hlaid⟩ := h.mem.laid id2 o2 h2
  rw [hl2] at e1; cases e1
  rcases hr.at_ with hn | ⟨o, l, h3, h4, h5, h6⟩
  · have := blk_lt hlaid hb2; omega
  · intro e; subst e
    cases hm : o2.wr with
    | true => exact hne (h.mem.apart _ _ _ _ _ _ _ h2 hm hl2 hb2 h3 h4 h5 h6)
    | false =>
      obtain ⟨c, hc⟩ := hlaid.immImm hm hb2
      obtain ⟨l', e2, hlaid'⟩ := h.mem.laid id o h3
      rw [h5] at e2; cases e2
      rw [hlaid'.mutImm h4 h6] at hc; cases hc

theorem Rebind.imm {id bn : Nat} (hr : Rebind st w w' ρ id bn) (h : RB E st a w ρ I) : ImmOk I w' := by
  intro b c hb
  have hlt := h.mem.imm.lt hb
  have hne : b ≠ bn := by
    rcases hr.at_ with hn | ⟨o, l, h3, h4, h5, h6⟩
    · omega
    · intro e; subst e
      obtain ⟨l', e2, hlaid'⟩ := h.mem.laid id o h3
      rw [h5] at e2; cases e2
      rw [hlaid'.mutImm h4 h6] at hb; cases hb
  rw [hr.other b hne hlt]
  exact h.mem.imm b c hb

theorem Rebind.ext {id bn : Nat} (hr : Rebind st w w' ρ id bn) (h : RB E st a w ρ I) : Ext E.M E.w0 w' := by
  refine ⟨hr.os.trans h.ext.os, hr.tape.trans h.ext.tape, hr.output.trans h.ext.output, Nat.le_trans h.ext.size hr.size, fun k hk hm => ?_⟩
  have hne : k ≠ bn := by
    rcases hr.at_ with hn | ⟨o, l, h3, h4, h5, h6⟩
    · have := h.ext.size; omega
    · intro e; subst e
      rcases h.fresh id o l k h3 h4 h5 h6 with h1 | h1
      · exact hm h1
      · omega
  rw [hr.other k hne (Nat.lt_of_lt_of_le hk h.ext.size)]
  exact h.ext.block k hk hm

theorem Rebind.fresh {id bn : Nat} (hr : Rebind st w w' ρ id bn) (h : RB E st a w ρ I) : E.M bn ∨ E.w0.heap.size ≤ bn := by
  rcases hr.at_ with hn | ⟨o, l, h3, h4, h5, h6⟩
  · have := h.ext.size; right; omega
  · exact h.fresh id o l bn h3 h4 h5 h6

/-- An object is bound anew (made, or appended to): whatever named it is struck. -/
theorem RB.rebind {id bn : Nat} (h : RB E st a w ρ I) (hr : Rebind st w w' ρ id bn) {o : AObj} {l : Loc} (hbn : l.blk = some bn ∨ l.blk = none)
    (hl : LaidObj I ρ w' o l) (hpin : o.pin = false := by rfl) : RB E { st with slots := killS id st.slots, heap := upd (killH id st.heap) id (o.kill id) } a w' (updL ρ id l) I where
  size := h.size
  defers := h.defers
  slots := by
    intro t d hd
    simp only [killS] at hd
    cases h1 : st.slots t with
    | none => simp [h1] at hd
    | some d' =>
      simp [h1] at hd; subst hd
      obtain ⟨q1, q2⟩ := h.slots t d' h1
      exact ⟨q1, q2.kill updL_ne⟩
  mem := by
    refine ⟨?_, ?_, hr.imm h⟩
    · intro id2 o2 h2
      simp only [upd] at h2
      split at h2
      · rename_i e; subst e; cases h2
        exact ⟨l, updL_eq, hl.killed (fun _ _ => rfl) updL_ne⟩
      · rename_i hne
        obtain ⟨_, o', h3, rfl⟩ := killH_some h2
        obtain ⟨l2, e2, hlaid⟩ := h.mem.laid id2 o' h3
        refine ⟨l2, by rw [updL_ne _ hne]; exact e2, hlaid.killed (fun b hb => ?_) updL_ne⟩
        exact hr.other b (hr.apart h h3 e2 hb hne) (blk_lt hlaid hb)
    · intro i1 o1 l1 i2 o2 l2 b h1 m1 e1 b1 h2 m2 e2 b2
      simp only [upd] at h1 h2
      by_cases c1 : i1 = id <;> by_cases c2 : i2 = id
      · omega
      · subst c1
        simp only [c2, if_false] at h2
        rw [updL_eq] at e1; cases e1
        rw [updL_ne _ c2] at e2
        obtain ⟨_, o', h3, rfl⟩ := killH_some h2
        have := hr.apart h h3 e2 b2 c2
        rcases hbn with q | q <;> rw [q] at b1 <;> cases b1
        exact absurd rfl this
      · subst c2
        simp only [c1, if_false] at h1
        rw [updL_eq] at e2; cases e2
        rw [updL_ne _ c1] at e1
        obtain ⟨_, o', h3, rfl⟩ := killH_some h1
        have := hr.apart h h3 e1 b1 c1
        rcases hbn with q | q <;> rw [q] at b2 <;> cases b2
        exact absurd rfl this
      · simp only [c1, if_false] at h1
        simp only [c2, if_false] at h2
        rw [updL_ne _ c1] at e1
        rw [updL_ne _ c2] at e2
        obtain ⟨_, o1', h3, rfl⟩ := killH_some h1
        obtain ⟨_, o2', h4, rfl⟩ := killH_some h2
        rw [AObj.kill_wr] at m1 m2
        exact h.mem.apart _ _ _ _ _ _ _ h3 m1 e1 b1 h4 m2 e2 b2
  i0 := h.i0
  i1 := h.i1
  ext := hr.ext h
  fresh := by
    intro i2 o2 l2 b h2 m2 e2 b2
    simp only [upd] at h2
    by_cases c2 : i2 = id
    · subst c2
      rw [updL_eq] at e2; cases e2
      rcases hbn with q | q <;> rw [q] at b2 <;> cases b2
      exact hr.fresh h
    · simp only [c2, if_false] at h2
      rw [updL_ne _ c2] at e2
      obtain ⟨_, o', h3, rfl⟩ := killH_some h2
      rw [AObj.kill_wr] at m2
      exact h.fresh _ _ _ _ h3 m2 e2 b2
  pins := by
    intro i2 o2 h2 hp
    simp only [upd] at h2
    by_cases c2 : i2 = id
    · subst c2
      simp only [if_true, Option.some.injEq] at h2
      rw [← h2, AObj.kill_pin, hpin] at hp; cases hp
    · simp only [c2, if_false] at h2
      rw [updL_ne _ c2]
      obtain ⟨_, o', h3, rfl⟩ := killH_some h2
      rw [AObj.kill_pin] at hp
      exact h.pins _ _ h3 hp

/-- An object is written where it lies. -/
theorem RB.write {id bn : Nat} (h : RB E st a w ρ I) (hr : Rebind st w w' ρ id bn) {o : AObj} {l : Loc} (hlo : ρ id = some l)
    (hold : ∃ o0, st.heap id = some o0 ∧ o0.wr = true ∧ (o.pin = true → o0.pin = true)) (hl : LaidObj I ρ w' o l) : RB E { st with heap := upd st.heap id o } a w' ρ I where
  size := h.size
  defers := h.defers
  slots := h.slots
  mem := by
    obtain ⟨o0, ho0, hm0, hpin⟩ := hold
    refine ⟨?_, ?_, hr.imm h⟩
    · intro id2 o2 h2
      simp only [upd] at h2
      split at h2
      · rename_i e; subst e; cases h2
        exact ⟨l, hlo, hl⟩
      · rename_i hne
        obtain ⟨l2, e2, hlaid⟩ := h.mem.laid id2 o2 h2
        refine ⟨l2, e2, hlaid.kept (fun _ _ q => q) (fun b hb => ?_) (fun _ _ _ q => q) (fun _ _ q => q)⟩
        exact hr.other b (hr.apart h h2 e2 hb hne) (blk_lt hlaid hb)
    · intro i1 o1 l1 i2 o2 l2 b h1 m1 e1 b1 h2 m2 e2 b2
      simp only [upd] at h1 h2
      by_cases c1 : i1 = id <;> by_cases c2 : i2 = id
      · omega
      · subst c1
        simp only [c2, if_false] at h2
        exact h.mem.apart _ _ _ _ _ _ _ ho0 hm0 e1 b1 h2 m2 e2 b2
      · subst c2
        simp only [c1, if_false] at h1
        exact h.mem.apart _ _ _ _ _ _ _ h1 m1 e1 b1 ho0 hm0 e2 b2
      · simp only [c1, if_false] at h1
        simp only [c2, if_false] at h2
        exact h.mem.apart _ _ _ _ _ _ _ h1 m1 e1 b1 h2 m2 e2 b2
  i0 := h.i0
  i1 := h.i1
  ext := hr.ext h
  fresh := by
    obtain ⟨o0, ho0, hm0, hpin⟩ := hold
    intro i2 o2 l2 b h2 m2 e2 b2
    simp only [upd] at h2
    by_cases c2 : i2 = id
    · subst c2
      exact h.fresh _ _ _ _ ho0 hm0 e2 b2
    · simp only [c2, if_false] at h2
      exact h.fresh _ _ _ _ h2 m2 e2 b2
  pins := by
    obtain ⟨o0, ho0, hm0, hpin⟩ := hold
    intro i2 o2 h2 hp
    simp only [upd] at h2
    by_cases c2 : i2 = id
    · subst c2
      simp only [if_true, Option.some.injEq] at h2
      exact h.pins _ _ ho0 (hpin (h2 ▸ hp))
    · simp only [c2, if_false] at h2
      exact h.pins _ _ h2 hp

/-- The heap as it is, other counts: a draw. -/
theorem RB.heapSame (h : RB E st a w ρ I) (hh : w'.heap = w.heap) (h1 : w'.os = w.os) (h2 : w'.tape = w.tape) (h3 : w'.output = w.output) : RB E st a w' ρ I where
  size := h.size
  defers := h.defers
  slots := h.slots
  mem := by
    refine ⟨fun id o ho => ?_, h.mem.apart, ?_⟩
    · obtain ⟨l, e, hl⟩ := h.mem.laid id o ho
      exact ⟨l, e, hl.kept (fun _ _ q => q) (fun b _ => by rw [hh]) (fun _ _ _ q => q) (fun _ _ q => q)⟩
    · intro b c hb; rw [hh]; exact h.mem.imm b c hb
  i0 := h.i0
  i1 := h.i1
  ext := ⟨h1.trans h.ext.os, h2.trans h.ext.tape, h3.trans h.ext.output, by rw [hh]; exact h.ext.size, fun k hk hm => by rw [hh]; exact h.ext.block k hk hm⟩
  fresh := h.fresh
  pins := h.pins

theorem RB.drew (h : RB E st a w ρ I) : RB E st a w.drew ρ I := h.heapSame rfl rfl rfl rfl

theorem getD_setIfInBounds (xs : Array Value) (t u : Nat) (x d : Value) : (xs.setIfInBounds t x).getD u d = if u = t ∧ t < xs.size then x else xs.getD u d := by
  simp only [Array.getD_eq_getD_getElem?, Array.getElem?_setIfInBounds]
  by_cases h : t = u
  · subst h
    by_cases h2 : t < xs.size
    · simp [h2]
    · simp [h2]
  · have : ¬ u = t := fun e => h e.symm
    simp [h, this]

def St.put (st : St) (dst : Option Tmp) (d : D) : St := match dst with | some t => { st with slots := upd st.slots t d } | none => st
def St.fits (st : St) (dst : Option Tmp) : Bool := match dst with | some t => decide (t < st.n) | none => true

theorem RB.put (h : RB E st a w ρ I) {dst : Option Tmp} {d : D} {x : Value} (hf : st.fits dst = true) (hd : Rep I ρ d x) : RB E (st.put dst d) (a.put dst x) w ρ I := by
  cases dst with
  | none => exact h
  | some t =>
    simp only [St.fits, decide_eq_true_eq] at hf
    refine ⟨by simpa [Act.put, St.put] using h.size, h.defers, ?_, h.mem, h.i0, h.i1, h.ext, h.fresh, h.pins⟩
    intro u d' hd'
    simp only [St.put, upd] at hd'
    simp only [Act.put, getD_setIfInBounds]
    have hs : a.tmps.size = st.n := h.size
    by_cases e : u = t
    · subst e
      simp only [if_true, Option.some.injEq] at hd'
      subst hd'
      rw [if_pos ⟨rfl, by rw [hs]; exact hf⟩]
      exact ⟨hf, hd⟩
    · simp only [e, if_false] at hd'
      simp only [e, false_and, if_false]
      exact h.slots u d' hd'

/-- Fewer slots and fewer objects are known. -/
theorem RB.weaken {st' : St} (h : RB E st a w ρ I) (hn : st'.n = st.n) (hs : ∀ t d, st'.slots t = some d → st.slots t = some d) (hh : ∀ id o, st'.heap id = some o → st.heap id = some o) : RB E st' a w ρ I where
  size := by rw [hn]; exact h.size
  defers := h.defers
  slots := fun t d hd => by rw [hn]; exact h.slots t d (hs t d hd)
  mem := ⟨fun id o ho => h.mem.laid id o (hh id o ho), fun i1 o1 l1 i2 o2 l2 b h1 m1 e1 b1 h2 m2 e2 b2 => h.mem.apart i1 o1 l1 i2 o2 l2 b (hh _ _ h1) m1 e1 b1 (hh _ _ h2) m2 e2 b2, h.mem.imm⟩
  i0 := h.i0
  i1 := h.i1
  ext := h.ext
  fresh := fun id o l b ho => h.fresh id o l b (hh id o ho)
  pins := fun id o ho => h.pins id o (hh id o ho)

def St.freeze (ids : List Nat) (st : St) : St := { st with heap := fun id => if ids.contains id then (st.heap id).map (fun o => { o with wr := false }) else st.heap id }

open Classical in
/-- Objects that are not written any more. -/
theorem RB.freeze (h : RB E st a w ρ I) (ids : List Nat) : ∃ J, (∀ b c, I b = some c → J b = some c) ∧ RB E (st.freeze ids) a w ρ J := by
  let hit (b : Nat) : Prop := ∃ id o l, id ∈ ids ∧ st.heap id = some o ∧ o.wr = true ∧ ρ id = some l ∧ l.blk = some b
  let cellsAt (b : Nat) : Option (Array Value) := match w.heap[b]? with | some (.cells c _ _) => some c | _ => none
  let J : Imm := fun b => if hit b then cellsAt b else I b
  have hJ : ∀ b c, I b = some c → J b = some c := by
    intro b c hb
    have : ¬ hit b := by
      rintro ⟨id, o, l, _, h1, h2, h3, h4⟩
      obtain ⟨l', e, hl⟩ := h.mem.laid id o h1
      rw [h3] at e; cases e
      rw [hl.mutImm h2 h4] at hb; cases hb
    show (if hit b then _ else _) = _
    rw [if_neg this]; exact hb
  refine ⟨J, hJ, h.size, h.defers, fun t d hd => ⟨(h.slots t d hd).1, (h.slots t d hd).2.imm hJ⟩, ⟨?_, ?_, ?_⟩, fun b c q => hJ b c (h.i0 b c q), ?_, h.ext, ?_, ?_⟩
  · intro id o ho
    simp only [St.freeze] at ho
    split at ho
    · rename_i hin
      cases h1 : st.heap id with
      | none => simp [h1] at ho
      | some o0 =>
        simp only [h1, Option.map_some, Option.some.injEq] at ho
        obtain ⟨l, e, hl⟩ := h.mem.laid id o0 h1
        refine ⟨l, e, ?_⟩
        subst ho
        refine ⟨hl.sz, hl.pos, hl.rows, hl.cap, ?_⟩
        rcases hl.mem with h0 | ⟨b, c, el, lo, hi, q1, q2, q3, q4, q5, q6, hone, q7⟩
        · exact .inl h0
        · refine .inr ⟨b, c, el, lo, hi, q1, q2, q3, q4, fun _ => ?_, by simp, hone, fun i j row d x r1 r2 r3 => ?_⟩
          · cases hm : o0.wr with
            | false => exact hJ _ _ (q5 hm)
            | true =>
              have hb : hit b := ⟨id, o0, l, by simpa using hin, h1, hm, e, q1⟩
              show (if hit b then _ else _) = _
              rw [if_pos hb]; simp [cellsAt, q2]
          · exact (q7 i j row d x r1 r2 r3).imm hJ
    · rename_i hout
      obtain ⟨l, e, hl⟩ := h.mem.laid id o ho
      refine ⟨l, e, hl.kept hJ (fun _ _ => rfl) (fun b hb hm hn => ?_) (fun _ _ q => q.imm hJ)⟩
      have : ¬ hit b := by
        rintro ⟨id', o', l', hin', h1, h2, h3, h4⟩
        have := h.mem.apart _ _ _ _ _ _ _ h1 h2 h3 h4 ho hm e hb
        subst this
        exact hout (by simpa using hin')
      show (if hit b then _ else _) = _
      rw [if_neg this]; exact hn
  · intro i1 o1 l1 i2 o2 l2 b h1 m1 e1 b1 h2 m2 e2 b2
    have key : ∀ i o, (st.freeze ids).heap i = some o → o.wr = true → st.heap i = some o := by
      intro i o ho hm
      simp only [St.freeze] at ho
      split at ho
      · cases h1 : st.heap i with
        | none => simp [h1] at ho
        | some o0 => simp [h1] at ho; subst ho; simp at hm
      · exact ho
    exact h.mem.apart _ _ _ _ _ _ _ (key _ _ h1 m1) m1 e1 b1 (key _ _ h2 m2) m2 e2 b2
  · intro b c hb
    by_cases hh : hit b
    · have hb' : cellsAt b = some c := by
        have : J b = cellsAt b := if_pos hh
        rw [← this]; exact hb
      simp only [cellsAt] at hb'
      split at hb'
      · rename_i c' e fr hw
        cases hb'
        exact ⟨e, fr, hw⟩
      · cases hb'
    · have : J b = I b := if_neg hh
      rw [this] at hb
      exact h.mem.imm b c hb
  · intro b c hb
    by_cases hh : hit b
    · obtain ⟨id, o, l, _, h1, h2, h3, h4⟩ := hh
      exact .inr (h.fresh id o l b h1 h2 h3 h4)
    · have : J b = I b := if_neg hh
      rw [this] at hb
      exact h.i1 b c hb
  · intro id o l b ho hm
    simp only [St.freeze] at ho
    split at ho
    · cases h1 : st.heap id with
      | none => simp [h1] at ho
      | some o0 => simp [h1] at ho; subst ho; simp at hm
    · exact h.fresh id o l b ho hm
  · intro id o ho hm
    simp only [St.freeze] at ho
    split at ho
    · cases h1 : st.heap id with
      | none => simp [h1] at ho
      | some o0 => simp [h1] at ho; subst ho; exact h.pins id o0 h1 hm
    · exact h.pins id o ho hm

end
end Go.Ab
