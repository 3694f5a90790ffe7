import Derived.Test.YtgjdgomkcdleiaaAbE
namespace Go.Ab
set_option linter.unusedSimpArgs false
set_option linter.unusedVariables false
def D.loose : D → D
  | .sl _ rows => .sl false rows
  | d => d
theorem Rep.loose {I : Imm} {ρ : Locs} {d : D} {x : Value} (h : Rep I ρ d x) : Rep I ρ d.loose x := by
  cases h with
  | nil _ f a cap hf => exact .nil _ false a cap (fun q => by cases q)
  | sl _ f rows b o cap sz c hI hsz hc hcap hf h1 h => exact .sl _ false rows b o cap sz c hI hsz hc hcap (fun q => by cases q) h1 h
  | v _ x => exact .v _ x
  | agg _ cs vs hl h => exact .agg _ cs vs hl h
  | tup _ cs vs hl h => exact .tup _ cs vs hl h
  | ref _ row k b o c hI hc h1 h => exact .ref _ row k b o c hI hc h1 h
  | own _ id off len l a hl hcap ha => exact .own _ id off len l a hl hcap ha
  | ptr _ id i k b l hl hb => exact .ptr _ id i k b l hl hb
  | fn _ f nf cs fs vs hn hl h => exact .fn _ f nf cs fs vs hn hl h
  | junk _ x => exact .junk _ x
section
variable {P : Program} {E : Ent} {st : St}
def AObj.loose (o : AObj) : AObj := { o with rows := o.rows.map fun row => row.map D.loose }
def St.looseO (st : St) (id : Nat) : St := { st with heap := fun k => if k = id then (st.heap k).map AObj.loose else st.heap k }
theorem LaidObj.loose {I : Imm} {ρ : Locs} {w : World} {o : AObj} {l : Loc} (h : LaidObj I ρ w o l) : LaidObj I ρ w o.loose l := by
  refine ⟨h.sz, h.pos, fun row hr => ?_, by simpa [AObj.loose] using h.cap, ?_⟩
  · obtain ⟨r0, h0, rfl⟩ := List.mem_map.1 hr
    rw [List.length_map]
    exact h.rows r0 h0
  · rcases h.mem with g0 | ⟨b, c, e, lo, hi, g1, g2, g3, g4, g5, g6, hone, g7⟩
    · exact .inl g0
    · refine .inr ⟨b, c, e, lo, hi, g1, g2, g3, g4, g5, g6, hone, fun i j row d x q1 q2 q3 => ?_⟩
      simp only [AObj.loose, List.getElem?_map] at q1
      obtain ⟨r0, h0, rfl⟩ := Option.map_eq_some_iff.1 q1
      simp only [List.getElem?_map] at q2
      obtain ⟨d0, h1, rfl⟩ := Option.map_eq_some_iff.1 q2
      exact (g7 i j r0 d0 x h0 h1 q3).loose
theorem loose_some {id k : Nat} {o : AObj} (h : (st.looseO id).heap k = some o) : ∃ o0, st.heap k = some o0 ∧ o.wr = o0.wr ∧ o.pin = o0.pin ∧ (o = o0 ∨ o = o0.loose) := by
  simp only [St.looseO] at h
  split at h
  · obtain ⟨o0, h1, rfl⟩ := Option.map_eq_some_iff.1 h
    exact ⟨o0, h1, rfl, rfl, .inr rfl⟩
  · exact ⟨o, h, rfl, rfl, .inl rfl⟩
theorem awp_looseO {c : Code} {Q : Exit → St → Prop} (id : Nat) (h : AWP P E c Q (st.looseO id)) : AWP P E c Q st := by
  refine fun a w hR => h a w ?_
  obtain ⟨ρ, I, hrb⟩ := hR
  refine ⟨ρ, I, ⟨hrb.size, hrb.defers, hrb.slots, ⟨fun k o ho => ?_, fun i1 o1 l1 i2 o2 l2 b h1 m1 e1 b1 h2 m2 e2 b2 => ?_, hrb.mem.imm⟩, hrb.i0, hrb.i1, hrb.ext, fun k o l b ho hw hl hb => ?_, fun k o ho hp => ?_, hrb.mp⟩⟩
  · obtain ⟨o0, q1, _, _, q4⟩ := loose_some ho
    obtain ⟨l, el, hl⟩ := hrb.mem.laid k o0 q1
    rcases q4 with rfl | rfl
    · exact ⟨l, el, hl⟩
    · exact ⟨l, el, hl.loose⟩
  · obtain ⟨p1, q1, q2, _⟩ := loose_some h1
    obtain ⟨p2, r1, r2, _⟩ := loose_some h2
    exact hrb.mem.apart _ _ _ _ _ _ _ q1 (q2.symm.trans m1) e1 b1 r1 (r2.symm.trans m2) e2 b2
  · obtain ⟨o0, q1, q2, _⟩ := loose_some ho
    exact hrb.fresh _ _ _ _ q1 (q2.symm.trans hw) hl hb
  · obtain ⟨o0, q1, _, q3, _⟩ := loose_some ho
    exact hrb.pins _ _ q1 (q3.symm.trans hp)
end
end Go.Ab
