/-
  ABSTRACT DATA FOR WALKS, 15: arguments that came in, as abstract data; from a contract to what a law's statement asks.
-/
import Derived.Test.YtfllndodnhmhkaaAb14
import Derived.Deep.Slices
import Derived.ChangeSame
import Derived.Carry
import Derived.Handed
import Derived.JoinedOf
import Derived.ProofKit
import Derived.OpenShut
import Derived.JoinedCond
namespace Go.Ab
set_option linter.unusedSimpArgs false
set_option linter.unusedVariables false
open Go.Deep

def immOf (w : World) : Imm := fun b => match w.heap[b]? with
  | some (.cells c _ _) => some c
  | _ => none

theorem immOk_of (w : World) : ImmOk (immOf w) w := by
  intro b c h
  unfold immOf at h
  split at h
  · rename_i c' e fr hb
    cases h
    exact ⟨e, fr, hb⟩
  · cases h

theorem cell_imm {w : World} {a : Addr} {v : Value} (h : w.cell? a = some v) : ∃ c, immOf w a.block = some c ∧ a.spot = none ∧ c[a.off]? = some v := by
  unfold World.cell? at h
  split at h
  · rename_i c e fr hb
    split at h
    · cases h
    · rename_i hs
      refine ⟨c, by simp [immOf, hb], ?_, h⟩
      cases hq : a.spot with
      | none => rfl
      | some _ => simp [hq] at hs
  · cases h

/-- Cells of type t read as an α: its row. -/
def Opens (P : Program) (t : TypeId) {α : Type} (enc : α → List D) (ok : α → Prop) : Prop :=
  ∀ (H : Type) (encH : TypeId × Value → H) (w : World) (fuel : Nat) (cs : List Value) (x : DataW H × List MemPlace), DataW.trod encH P w 0 (fun _ => true) true fuel t cs = some x →
    ∃ a : α, ok a ∧ cs.length = (enc a).length ∧ ∀ (i : Nat) (d : D) (v : Value), (enc a)[i]? = some d → cs[i]? = some v → Rep (immOf w) noLocs d v ∧ v.oneCell' = true

theorem one_row {I : Imm} {d : D} {v : Value} (h : Rep I noLocs d v) (h1 : v.oneCell' = true) : ∀ (i : Nat) (d' : D) (v' : Value), [d][i]? = some d' → [v][i]? = some v' → Rep I noLocs d' v' ∧ v'.oneCell' = true := by
  intro i d' v' q1 q2
  cases i with
  | zero => simp at q1 q2; subst q1; subst q2; exact ⟨h, h1⟩
  | succ i => simp at q1

section
variable {P : Program}

theorem opens_int {t : TypeId} {k : IntKind} (h : P.underlying t = some (.int k)) : Opens P t (fun n : Int => [.v (.int k n)]) (fun n => (Lit.int k n).wf = true) := by
  intro H encH w fuel cs x hx
  obtain ⟨n, rfl, _, hw⟩ := DataW.trod_int h hx
  exact ⟨n, hw, rfl, one_row (.v _ _) rfl⟩

theorem opens_bool {t : TypeId} (h : P.underlying t = some .bool) : Opens P t (fun b : Bool => [.v (.bool b)]) (fun _ => True) := by
  intro H encH w fuel cs x hx
  obtain ⟨n, rfl, _⟩ := DataW.trod_bool h hx
  exact ⟨n, trivial, rfl, one_row (.v _ _) rfl⟩

theorem opens_string {t : TypeId} (h : P.underlying t = some .string) : Opens P t (fun s : ByteArray => [.v (.string s)]) (fun s => s.size ≤ 9223372036854775807) := by
  intro H encH w fuel cs x hx
  obtain ⟨s, rfl, _, hs⟩ := DataW.trod_string h hx
  exact ⟨s, hs, rfl, one_row (.v _ _) rfl⟩

theorem opens_map {t : TypeId} {α β : Type} {enc : α → List D} {ok : α → Prop} (h : Opens P t enc ok) {enc' : β → List D} {ok' : β → Prop} (hm : ∀ a, ok a → ∃ b, ok' b ∧ enc a = enc' b) : Opens P t enc' ok' := by
  intro H encH w fuel cs x hx
  obtain ⟨a, h1, h2, h3⟩ := h H encH w fuel cs x hx
  obtain ⟨b, g1, g2⟩ := hm a h1
  exact ⟨b, g1, by rw [← g2]; exact h2, by rw [← g2]; exact h3⟩

theorem choose_list {α : Type} {p : Nat → α → Prop} : ∀ {n : Nat}, (∀ i, i < n → ∃ a, p i a) → ∃ l : List α, l.length = n ∧ ∀ (i : Nat) (a : α), l[i]? = some a → p i a
  | 0, _ => ⟨[], rfl, fun i a h => by simp at h⟩
  | n + 1, h => by
    obtain ⟨l, h1, h2⟩ := choose_list (n := n) fun i hi => h i (by omega)
    obtain ⟨a, ha⟩ := h n (by omega)
    refine ⟨l ++ [a], by simp [h1], fun i b hb => ?_⟩
    by_cases hi : i < l.length
    · rw [List.getElem?_append_left hi] at hb; exact h2 i b hb
    · rw [List.getElem?_append_right (by omega)] at hb
      have : i = n := by
        have := (List.getElem?_eq_some_iff.1 hb).1
        simp at this; omega
      subst this
      simp [h1] at hb
      subst hb; exact ha

theorem opens_slice {t e : TypeId} {α : Type} {enc : α → List D} {ok : α → Prop} (ht : P.underlying t = some (.slice e)) (he : Opens P e enc ok) (hlen : ∀ a, (enc a).length = P.cellsOf e) (hpos : 0 < P.cellsOf e) :
    Opens P t (fun l : List α => [.sl false (l.map enc)]) (fun l => l.length ≤ 9223372036854775807 ∧ ∀ a ∈ l, ok a) := by
  intro H encH w fuel cs x hx
  rcases open_slice ht hx with ⟨rfl, _⟩ | ⟨a, len, cap, m, n, Dd, Pl, rfl, _, hl, hm, hmm, _, hel⟩
  · exact ⟨[], ⟨by simp, by simp⟩, rfl, one_row (.nil _ _ _ _ (by simp)) rfl⟩
  · have hel' : ∀ i, i < len → ∃ q : α, ok q ∧ ∃ cs', w.cells? 0 (a.add (i * P.cellsOf e)) (P.cellsOf e) = some cs' ∧ cs'.length = (enc q).length ∧ ∀ (j : Nat) (d : D) (v : Value), (enc q)[j]? = some d → cs'[j]? = some v → Rep (immOf w) noLocs d v ∧ v.oneCell' = true := by
      intro i hi
      obtain ⟨cs', h1, h2⟩ := hel i (by simp at hmm; omega)
      obtain ⟨q, g1, g2, g3⟩ := he H encH w n cs' _ h2
      exact ⟨q, g1, cs', h1, g2, g3⟩
    obtain ⟨l, hll, hlp⟩ := choose_list hel'
    have hm' : len ≤ 9223372036854775807 := by unfold maxLen at hm; omega
    refine ⟨l, ⟨by omega, fun q hq => ?_⟩, rfl, ?_⟩
    · obtain ⟨i, hi⟩ := List.getElem?_of_mem hq
      exact (hlp i q hi).1
    by_cases h0 : len = 0
    · subst h0
      have : l = [] := by cases l with
        | nil => rfl
        | cons _ _ => simp at hll
      subst this
      exact one_row (.nil _ _ _ _ (by simp)) rfl
    · -- the block
      have hat : ∀ i q, l[i]? = some q → ∀ j, j < P.cellsOf e → ∃ v, w.cell? ((a.add (i * P.cellsOf e)).add j) = some v ∧ ∀ d, (enc q)[j]? = some d → Rep (immOf w) noLocs d v ∧ v.oneCell' = true := by
        intro i q hq j hj
        obtain ⟨_, cs', h1, h2, h3⟩ := hlp i q hq
        obtain ⟨hb0, hcl, hcc⟩ := World.cells?_some h1
        have hj' : j < cs'.length := by rw [hcl]; exact hj
        exact ⟨cs'[j], by rw [hcc j hj, List.getElem?_eq_getElem hj'], fun d hd => h3 j d _ hd (List.getElem?_eq_getElem hj')⟩
      have hq0 : l[0]? = some (l[0]'(by omega)) := List.getElem?_eq_getElem (by omega)
      obtain ⟨v0, hv0, _⟩ := hat 0 _ hq0 0 hpos
      rw [Nat.zero_mul, Addr.add_zero', Addr.add_zero'] at hv0
      obtain ⟨c, hI, hsp, _⟩ := cell_imm hv0
      obtain ⟨b, o, sp⟩ := a
      simp only at hI hsp
      subst hsp
      have hat' : ∀ i q, l[i]? = some q → ∀ j, j < P.cellsOf e → ∃ v, c[o + i * P.cellsOf e + j]? = some v ∧ ∀ d, (enc q)[j]? = some d → Rep (immOf w) noLocs d v ∧ v.oneCell' = true := by
        intro i q hq j hj
        obtain ⟨v, hv, h2⟩ := hat i q hq j hj
        rw [Addr.add_lit, Addr.add_lit] at hv
        obtain ⟨c', hI', _, hc'⟩ := cell_imm hv
        simp only at hI' hc'
        rw [hI] at hI'; cases hI'
        exact ⟨v, hc', h2⟩
      have hsize : o + l.length * P.cellsOf e ≤ c.size := by
        have hq : l[l.length - 1]? = some (l[l.length - 1]'(by omega)) := List.getElem?_eq_getElem (by omega)
        obtain ⟨v, hv, _⟩ := hat' _ _ hq (P.cellsOf e - 1) (by omega)
        have := (Array.getElem?_eq_some_iff.1 hv).1
        have e1 : l.length * P.cellsOf e = (l.length - 1) * P.cellsOf e + P.cellsOf e := by
          rw [← Nat.succ_mul]; congr 1; omega
        omega
      have hrows : (l.map enc).length = len := by simp [hll]
      have hrep := Rep.sl (I := immOf w) noLocs false (l.map enc) b o cap (P.cellsOf e) c hI (fun row hr => by
          simp only [List.mem_map] at hr
          obtain ⟨q, _, rfl⟩ := hr
          exact hlen q) (by simpa using hsize) (by omega) (by simp) (fun j v hj hv => by
          rw [List.length_map] at hj
          have hi : j / P.cellsOf e < l.length := by rw [Nat.div_lt_iff_lt_mul hpos]; exact hj
          have hq := List.getElem?_eq_getElem hi
          obtain ⟨v', hv', h2⟩ := hat' _ _ hq (j % P.cellsOf e) (Nat.mod_lt _ hpos)
          have e1 : o + j / P.cellsOf e * P.cellsOf e + j % P.cellsOf e = o + j := by
            have := Nat.div_add_mod' j (P.cellsOf e); omega
          rw [e1, hv] at hv'
          cases hv'
          have hjl : j % P.cellsOf e < (enc l[j / P.cellsOf e]).length := by rw [hlen]; exact Nat.mod_lt _ hpos
          exact (h2 _ (List.getElem?_eq_getElem hjl)).2) (fun i j row d v hr hd hv => by
          rw [List.getElem?_map] at hr
          cases hq : l[i]? with
          | none => simp [hq] at hr
          | some q =>
            simp only [hq, Option.map_some, Option.some.injEq] at hr
            subst hr
            have hj : j < P.cellsOf e := by have := (List.getElem?_eq_some_iff.1 hd).1; rw [hlen] at this; exact this
            obtain ⟨v', hv', h2⟩ := hat' i q hq j hj
            rw [hv] at hv'; cases hv'
            exact (h2 d hd).1)
      rw [hrows] at hrep
      exact one_row hrep rfl

end
/-! ### arguments -/

/-- An argument of type t is an α. -/
def OpensArg (P : Program) (t : TypeId) {α : Type} (enc : α → D) (ok : α → Prop) : Prop :=
  ∀ (H : Type) (encH : TypeId × Value → H) (W : World) (base : Nat) (v : Value) (d : DataW H) (ps : List MemPlace), Value.okWide P W .any base t v → DataW.Trod encH P W 0 (fun _ => true) true t v d ps → ∃ a : α, ok a ∧ Rep (immOf W) noLocs (enc a) v

section
variable {P : Program}

theorem opensArg_one {t : TypeId} {α : Type} {e : α → D} {ok : α → Prop} (h : Opens P t (fun a => [e a]) ok) (h1 : ∀ W base v, Value.okWide P W .any base t v → v.oneCell' = true) : OpensArg P t e ok := by
  intro H encH W base v d ps hv ⟨fuel, hf⟩
  have ho := h1 W base v hv
  rw [Value.cells_one ho] at hf
  obtain ⟨a, g1, g2, g3⟩ := h H encH W fuel _ _ hf
  exact ⟨a, g1, (g3 0 _ v rfl rfl).1⟩

theorem opensArg_int {t : TypeId} {k : IntKind} {α : Type} {e : α → D} {ok : α → Prop} (ht : P.underlying t = some (.int k)) (h : Opens P t (fun a => [e a]) ok) : OpensArg P t e ok :=
  opensArg_one h fun W base v hv => by
    obtain ⟨n, rfl⟩ := WideShapes.okWide_int ht hv; rfl
theorem opensArg_bool {t : TypeId} {α : Type} {e : α → D} {ok : α → Prop} (ht : P.underlying t = some .bool) (h : Opens P t (fun a => [e a]) ok) : OpensArg P t e ok :=
  opensArg_one h fun W base v hv => by
    obtain ⟨n, rfl⟩ := WideShapes.okWide_bool ht hv; rfl
theorem opensArg_string {t : TypeId} {α : Type} {e : α → D} {ok : α → Prop} (ht : P.underlying t = some .string) (h : Opens P t (fun a => [e a]) ok) : OpensArg P t e ok :=
  opensArg_one h fun W base v hv => by
    obtain ⟨n, rfl⟩ := WideShapes.okWide_string ht hv; rfl
theorem opensArg_slice {t e' : TypeId} {α : Type} {e : α → D} {ok : α → Prop} (ht : P.underlying t = some (.slice e')) (h : Opens P t (fun a => [e a]) ok) : OpensArg P t e ok :=
  opensArg_one h fun W base v hv => by
    obtain ⟨a, len, cap, rfl⟩ := WideShapes.okWide_slice ht hv; rfl
theorem opensArg_agg {t : TypeId} {u : TypeDesc} {α : Type} {e : α → List D} {ok : α → Prop} (ht : P.underlying t = some u) (hu : isAggT u = true) (h : Opens P t e ok) : OpensArg P t (fun a => .agg (e a)) ok := by
  intro H encH W base v d ps hv ⟨fuel, hf⟩
  have : ∃ cs, v = .agg cs := by
    simp only [Value.okWide, ht] at hv
    cases u <;> simp [isAggT] at hu <;> exact ⟨hv.choose, hv.choose_spec.1⟩
  obtain ⟨cs, rfl⟩ := this
  obtain ⟨a, g1, g2, g3⟩ := h H encH W fuel _ _ hf
  simp only [Value.cells] at g2 g3
  exact ⟨a, g1, .agg _ _ _ (by simpa using g2.symm) fun i d x q1 q2 => (g3 i d x q1 (by simpa using q2)).1⟩

/-! ### the end of a law -/

theorem trodAll_stays {H : Type} {enc : TypeId × Value → H} {W W' : World} {sp : Nat → Bool} (hl : laidOutB P = true) (hb : RowKit.Below W.heap.size W W') :
    ∀ {ts : List TypeId} {vs : List Value} {ds : List (DataW H)} {p : List MemPlace}, ts.all (fun t => P.readableRec t && decide (t < P.types.size)) = true → DataW.TrodAll enc P W 0 (fun _ => true) true ts vs ds p → (∀ x ∈ p, x.block < W.heap.size) → (∀ x ∈ p, sp x.block = true) →
      DataW.TrodAll enc P W' 0 sp true ts vs ds p
  | [], [], [], p, _, h, _, _ => h
  | t :: ts, v :: vs, d :: ds, p, ht, ⟨p1, q1, h1, h2, e⟩, hlt, hsp => by
    subst e
    simp only [List.all_cons, Bool.and_eq_true, decide_eq_true_eq] at ht
    exact ⟨p1, q1, WideElems.Trod_stays hl ht.1.1 ht.1.2 h1 (fun x hx => hb.same (hlt x (by simp [hx]))) (fun x hx => hsp x (by simp [hx])), trodAll_stays hl hb ht.2 h2 (fun x hx => hlt x (by simp [hx])) (fun x hx => hsp x (by simp [hx])), rfl⟩
  | [], _ :: _, _, _, _, h, _, _ => by simp [DataW.TrodAll] at h
  | [], [], _ :: _, _, _, h, _, _ => by simp [DataW.TrodAll] at h
  | _ :: _, [], _, _, _, h, _, _ => by simp [DataW.TrodAll] at h
  | _ :: _, _ :: _, [], _, _, h, _, _ => by simp [DataW.TrodAll] at h

theorem law_end {H : Type} {enc : TypeId × Value → H} {f : Func} {s : ChangeSpec} {apart fresh handsOn again : Bool} {W W' : World} {args : Array Value} {ds gs : List (DataW H)} {before : List MemPlace} {tb : TypeId}
    (hW : DataW.Whole enc P f.params.toList s.vars apart W args.toList ds gs before) (hvars : s.vars = []) (hb : RowKit.Below W.heap.size W W') (hres : (s.fn H (ds ++ gs)).results = [.lit (.bool true)]) (hargs : (s.fn H (ds ++ gs)).args = ds) (hvs : (s.fn H (ds ++ gs)).vars = [])
    (hrt : f.resultTypes = #[tb]) (htb : P.underlying tb = some .bool) (hl : laidOutB P = true) (hts : f.params.toList.all (fun t => P.readableRec t && decide (t < P.types.size)) = true) : s.post enc P f apart fresh handsOn again W args (.bool true) W' := by
  obtain ⟨p, q, hA, hV, hpq, hz, hn⟩ := hW
  have hV' := hV
  rw [hvars] at hV'
  obtain ⟨hgs, hq⟩ := ChangeShapes.trodVars_none hV'
  have hW : DataW.Whole enc P f.params.toList s.vars apart W args.toList ds gs before := ⟨p, q, hA, hV, hpq, hz, hn⟩
  have hlt : ∀ x ∈ before, x.block < W.heap.size := fun x hx => hW.lt x hx
  have hpp : before = p := by rw [hpq, hq]; simp
  have hargs' : ∀ sp : Nat → Bool, (∀ x ∈ before, sp x.block = true) → DataW.TrodAll enc P W' 0 sp true f.params.toList args.toList (s.fn H (ds ++ gs)).args p := fun sp hsp => by
    rw [hargs]
    exact trodAll_stays hl hb hts hA (fun x hx => hlt x (by rw [hpp]; exact hx)) (fun x hx => hsp x (by rw [hpp]; exact hx))
  have hvars' : ∀ sp : Nat → Bool, DataW.TrodVars enc P W' sp s.vars (s.fn H (ds ++ gs)).vars [] := fun sp => by
    rw [hvars, hvs]; rfl
  have hres' : ∀ (b : Nat) (sp : Nat → Bool) (hd : Bool), DataW.TrodAll enc P W' b sp hd f.resultTypes.toList ((Value.bool true).resultList f.resultTypes.size) (s.fn H (ds ++ gs)).results [] := fun b sp hd => by
    rw [hres, hrt]
    exact ⟨[], [], RowKit.shut_bool htb true, rfl, rfl⟩
  have hok := RowKit.ok_one (P := P) (W' := W') (v := .bool true) hrt rfl (RowKit.okWide_bool_mk htb true)
  have hold : ∀ x ∈ before, (fun b => decide (b < W.heap.size)) x.block = true := fun x hx => by simpa using hlt x hx
  refine ⟨ds, gs, before, [], p, [], hW, hres' _ _ _, hargs' _ hold, hvars' _, World.keptBut_mono (fun x hx => ⟨hx, ?_⟩) (hb.frame (· ∈ before)), fun _ => ?_⟩
  · rw [hpp] at hx; exact Or.inr (by simpa using hx)
  · refine ⟨hok, _, _, ([] ++ p) ++ [], ⟨[] ++ p, [], ChangeShapes.trodAll_append (hargs' _ (fun _ _ => rfl)) (hres' _ _ _), hvars' _, rfl, ?_, ?_⟩, ?_⟩
    · intro b off hp
      have hp' : MemPlace.cell b off ∈ before := by rw [hpp]; simpa using hp
      rw [hb.frozen (p := ⟨b, off, none⟩) (hlt _ hp')]
      exact hz b off hp'
    · intro ha
      have := hn ha
      rw [hpp] at this
      simpa using this
    · intro x hx _
      rw [hpp]
      simpa using hx

end
end Go.Ab
