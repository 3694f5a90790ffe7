/-
  ABSTRACT DATA FOR WALKS, 23: objects whose cells name no ids any more; objects whose cells may.
-/
import Derived.Test.YtfllndodnhmhkaaAb22
namespace Go.Ab
set_option linter.unusedSimpArgs false
set_option linter.unusedVariables false

section
variable {P : Program} {E : Ent} {st : St} {tt : TypeId → Option TI}

/-- Its cells may name ids from now on. -/
def St.unflat (st : St) (id : Nat) : St := { st with heap := fun k => if k = id then (st.heap k).map fun o => { o with flat := false } else st.heap k }

theorem LaidObj.unflat {I : Imm} {ρ : Locs} {w : World} {o : AObj} {l : Loc} (h : LaidObj I ρ w o l) : LaidObj I ρ w { o with flat := false } l := by
  refine ⟨h.sz, h.pos, h.rows, h.cap, ?_⟩
  rcases h.mem with g0 | ⟨b, c, e, lo, hi, g1, g2, g3, g4, g5, g6, hone, g7⟩
  · exact .inl g0
  · refine .inr ⟨b, c, e, lo, hi, g1, g2, g3, g4, g5, g6, hone, fun i j row d x q1 q2 q3 => ?_⟩
    have := g7 i j row d x q1 q2 q3
    simp only [Bool.false_eq_true, if_false]
    split at this
    · exact this.mono (fun id l hl => by cases hl)
    · exact this

theorem unflat_some {id k : Nat} {o : AObj} (h : (st.unflat id).heap k = some o) : ∃ o0, st.heap k = some o0 ∧ o.wr = o0.wr ∧ o.pin = o0.pin ∧ (o = o0 ∨ o = { o0 with flat := false }) := by
  simp only [St.unflat] at h
  split at h
  · obtain ⟨o0, h1, rfl⟩ := Option.map_eq_some_iff.1 h
    exact ⟨o0, h1, rfl, rfl, .inr rfl⟩
  · exact ⟨o, h, rfl, rfl, .inl rfl⟩

theorem awp_unflat {c : Code} {Q : Exit → St → Prop} (id : Nat) (h : AWP P E c Q (st.unflat id)) : AWP P E c Q st := by
  refine fun a w hR => h a w ?_
  obtain ⟨ρ, I, hrb⟩ := hR
  refine ⟨ρ, I, ⟨hrb.size, hrb.defers, hrb.slots, ⟨fun k o ho => ?_, fun i1 o1 l1 i2 o2 l2 b h1 m1 e1 b1 h2 m2 e2 b2 => ?_, hrb.mem.imm⟩, hrb.i0, hrb.i1, hrb.ext, fun k o l b ho hw hl hb => ?_, fun k o ho hp => ?_⟩⟩
  · obtain ⟨o0, q1, _, _, q4⟩ := unflat_some ho
    obtain ⟨l, el, hl⟩ := hrb.mem.laid k o0 q1
    rcases q4 with rfl | rfl
    · exact ⟨l, el, hl⟩
    · exact ⟨l, el, hl.unflat⟩
  · obtain ⟨p1, q1, q2, _⟩ := unflat_some h1
    obtain ⟨p2, r1, r2, _⟩ := unflat_some h2
    exact hrb.mem.apart _ _ _ _ _ _ _ q1 (q2.symm.trans m1) e1 b1 r1 (r2.symm.trans m2) e2 b2
  · obtain ⟨o0, q1, q2, _⟩ := unflat_some ho
    exact hrb.fresh _ _ _ _ q1 (q2.symm.trans hw) hl hb
  · obtain ⟨o0, q1, _, q3, _⟩ := unflat_some ho
    exact hrb.pins _ _ q1 (q3.symm.trans hp)

/-- What its cells name is written no more: they name no ids. -/
def St.pureObj (st : St) (id : Nat) (ids : List Nat) (o : AObj) (rows : List (List D)) : St := { st.freeze ids with heap := upd (st.freeze ids).heap id { o with rows := rows, flat := true } }

theorem awp_pureO {c : Code} {Q : Exit → St → Prop} (id : Nat) {o : AObj} {ids : List Nat} {p : Prop} {rows : List (List D)} (ho : st.heap id = some o) (hf : o.flat = false) (he : purLL (pur st.heap 4) o.rows = some (ids, p, rows)) (hp : p) (hid : id ∉ ids) (h : AWP P E c Q (st.pureObj id ids o rows)) : AWP P E c Q st := by
  refine fun a w hR => h a w ?_
  obtain ⟨ρ, I, hrb⟩ := hR
  obtain ⟨J, hJ, h'⟩ := hrb.freeze ids
  have hpk := pur_ok (I := J) (ρ := ρ) (w := w) h'.mem hrb.rowsLen 4
  obtain ⟨r1, r2, r3⟩ := purLL_ok hpk he hp (frozenBy_freeze ids)
  have hfz : (st.freeze ids).heap id = some o := by simp [St.freeze, ho, hid]
  have hget : ∀ k o1, (st.pureObj id ids o rows).heap k = some o1 → ∃ o0, (st.freeze ids).heap k = some o0 ∧ o1.wr = o0.wr ∧ o1.pin = o0.pin ∧ ((k = id ∧ o1 = { o with rows := rows, flat := true }) ∨ (k ≠ id ∧ o1 = o0)) := fun k o1 hk => by
    simp only [St.pureObj, upd] at hk
    split at hk
    · rename_i e
      cases hk
      subst e
      exact ⟨o, hfz, rfl, rfl, .inl ⟨rfl, rfl⟩⟩
    · rename_i e
      exact ⟨o1, hk, rfl, rfl, .inr ⟨e, rfl⟩⟩
  refine ⟨ρ, J, ⟨h'.size, h'.defers, h'.slots, ⟨fun k o1 hk => ?_, fun i1 o1 l1 i2 o2 l2 b h1 m1 e1 b1 h2 m2 e2 b2 => ?_, h'.mem.imm⟩, h'.i0, h'.i1, h'.ext, fun k o1 l b hk hw hl hb => ?_, fun k o1 hk hp => ?_⟩⟩
  · obtain ⟨o0, q1, q2, q3, ⟨rfl, rfl⟩ | ⟨hne, rfl⟩⟩ := hget k o1 hk
    · rw [hfz] at q1; cases q1
      obtain ⟨l, el, hl⟩ := h'.mem.laid k o hfz
      refine ⟨l, el, hl.sz, hl.pos, fun row hr => ?_, by simp only; rw [r1]; exact hl.cap, ?_⟩
      · obtain ⟨i, hi⟩ := List.getElem?_of_mem hr
        obtain ⟨row0, g1, g2⟩ := r2 i row hi
        rw [g2]
        exact hl.rows row0 (List.mem_of_getElem? g1)
      · rcases hl.mem with g0 | ⟨b, c, e, lo, hi, g1, g2, g3, g4, g5, g6, hone, g7⟩
        · exact .inl g0
        · refine .inr ⟨b, c, e, lo, hi, g1, g2, g3, g4, g5, g6, hone, fun i j row d x q1 q2 q3 => ?_⟩
          simp only [if_true]
          refine r3 i j row d x q1 q2 fun row0 d0 hr0 hd0 => ?_
          have := g7 i j row0 d0 x hr0 hd0 q3
          rw [hf] at this
          simpa using this
    · exact (h'.mem.laid k o1 q1).imp fun l hl => ⟨hl.1, hl.2⟩
  · obtain ⟨p1, q1, q2, _⟩ := hget i1 o1 h1
    obtain ⟨p2, s1, s2, _⟩ := hget i2 o2 h2
    exact h'.mem.apart _ _ _ _ _ _ _ q1 (q2.symm.trans m1) e1 b1 s1 (s2.symm.trans m2) e2 b2
  · obtain ⟨o0, q1, q2, _⟩ := hget k o1 hk
    exact h'.fresh _ _ _ _ q1 (q2.symm.trans hw) hl hb
  · obtain ⟨o0, q1, _, q3, _⟩ := hget k o1 hk
    exact h'.pins _ _ q1 (q3.symm.trans hp)

end
end Go.Ab
