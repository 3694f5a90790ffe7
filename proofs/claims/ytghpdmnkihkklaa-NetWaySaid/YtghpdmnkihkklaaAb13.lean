/-
  ABSTRACT DATA FOR WALKS, 13: from a body's walk to its contract.
-/
import Derived.Test.YtghpdmnkihkklaaAb12
namespace Go.Ab
set_option linter.unusedSimpArgs false
set_option linter.unusedVariables false

def resV (rs : List Tmp) (tmps : Array Value) : Value := match rs with
  | [t] => tmps.getD t undef
  | ts => .tuple (ts.map fun t => tmps.getD t undef).toArray

section
variable {P : Program} {E : Ent} {st : St} {a : Act} {w w' : World} {ρ : Locs} {I J : Imm} {tt : TypeId → Option TI}

theorem results_list (tmps : Array Value) (g : ResultVar → Sem Value) (hg : ∀ t, g (.tmp t) = pure (tmps.getD t undef)) : ∀ rs : List Tmp, ((rs.map ResultVar.tmp).mapM g).run P w = .ok (rs.map fun t => tmps.getD t undef) w
  | [] => rfl
  | t :: rs => by
    simp only [List.map_cons, List.mapM_cons, hg, Sem.run_bind, Sem.run_pure, Result.andThen_ok, results_list tmps g hg rs]

theorem run_results {fn : Func} {rs : List Tmp} (hr : fn.results = (rs.map ResultVar.tmp).toArray) (tmps : Array Value) : (results fn tmps).run P w = .ok (resV rs tmps) w := by
  unfold results
  rw [hr]
  have := fun g hg => mapM_array_list (P := P) (w := w) g (rs.map ResultVar.tmp).toArray _ (results_list tmps g hg rs)
  rw [Sem.run_bind, this _ (fun t => rfl)]
  simp only [Result.andThen_ok, Sem.run_pure]
  congr 1
  match rs with
  | [] => simp [resV]
  | [t] => simp [resV]
  | t :: u :: rs => simp [resV]

theorem RB.result (h : RB E st a w ρ I) {rs : List Tmp} {d : D} (hd : st.result rs = some d) : Rep I ρ d (resV rs a.tmps) := by
  match rs, hd with
  | [t], hd => exact (h.slots t d hd).2
  | [], hd =>
    simp only [St.result, St.evL, List.map_nil, Option.some.injEq] at hd
    subst hd
    exact .tup _ _ _ rfl (by simp)
  | t :: u :: rs, hd =>
    simp only [St.result] at hd
    split at hd
    · rename_i ds hds
      simp only [Option.some.injEq] at hd
      subst hd
      obtain ⟨q1, q2⟩ := RepL.get (h.evL hds)
      have e : (((t :: u :: rs).map Operand.tmp).map a.eval) = (t :: u :: rs).map fun t => a.tmps.getD t undef := by simp [Act.eval]
      rw [e] at q1 q2
      exact .tup _ _ _ (by simpa using q1) fun i d x h1 h2 => q2 i d x h1 (by simpa [resV] using h2)
    · cases hd

theorem laid_unren {σ : Nat → Nat} {o : AObj} {l : Loc} {n : Nat} (h : LaidObj I ρ w (o.ren σ) l) (hf : o.flat = true ∨ o.rows.all (D.allL fun k => decide (k < n)) = true) :
    LaidObj I (fun j => if j < n then ρ (σ j) else none) w o l := by
  cases hfl : o.flat with
  | true =>
    have e : o.ren σ = o := by simp [AObj.ren, hfl]
    rw [e] at h
    refine ⟨h.sz, h.pos, h.rows, h.cap, ?_⟩
    rcases h.mem with g0 | ⟨b, c, e, lo, hi, g1, g2, g3, g4, g5, g6, hone, g7⟩
    · exact .inl g0
    · refine .inr ⟨b, c, e, lo, hi, g1, g2, g3, g4, g5, g6, hone, fun i j row d x q1 q2 q3 => ?_⟩
      have := g7 i j row d x q1 q2 q3
      simpa [hfl] using this
  | false =>
    have hall : o.rows.all (D.allL fun k => decide (k < n)) = true := by simpa [hfl] using hf
    have e : o.ren σ = { o with rows := o.rows.map (D.renL σ) } := by simp [AObj.ren, hfl]
    rw [e] at h
    have hget : ∀ (i : Nat) (row : List D), o.rows[i]? = some row → (o.rows.map (D.renL σ))[i]? = some (D.renL σ row) := fun i row hr => by rw [List.getElem?_map, hr]; rfl
    refine ⟨h.sz, h.pos, fun row hr => ?_, by simpa using h.cap, ?_⟩
    · obtain ⟨i, hi⟩ := List.getElem?_of_mem hr
      have := h.rows _ (List.mem_of_getElem? (hget i row hi))
      rwa [D.renL_length] at this
    · rcases h.mem with g0 | ⟨b, c, e, lo, hi, g1, g2, g3, g4, g5, g6, hone, g7⟩
      · exact .inl g0
      · refine .inr ⟨b, c, e, lo, hi, g1, g2, g3, g4, g5, g6, hone, fun i j row d x q1 q2 q3 => ?_⟩
        have hd : (D.renL σ row)[j]? = some (d.ren σ) := by rw [D.renL_get, q2]; rfl
        have := g7 i j _ _ x (hget i row q1) hd q3
        simp only [hfl] at this ⊢
        have h2 := Rep.unren d this
        have hall' : d.all (fun k => decide (k < n)) = true := D.allL_get (List.all_eq_true.1 hall row (List.mem_of_getElem? q1)) q2
        exact h2.locs (p := fun k => decide (k < n)) (fun k hk => by simp only [decide_eq_true_eq] at hk; simp [hk]) hall'

/-- The contract of a function, from the walk of its body. -/
theorem contract_of_awp {f : FuncId} {fn : Func} {c : Code} {n : Nat} {rs : List Tmp} {ds : List D} {r : D} {objs : List AObj} (hf : P.funcs[f]? = some fn) (hb : fn.body = some c) (hn : fn.ntmps = n) (hds : ds.length ≤ n)
    (hrs : fn.results = (rs.map ResultVar.tmp).toArray) (h : ∀ E, AWP P E c (fun e s => ∃ gs, Ends rs r objs gs e s) (startSt n ds)) : Contract P f ds r objs := by
  intro w I vs hI hvs
  refine calls_of_wp hf hb ?_
  obtain ⟨v1, v2⟩ := RepL.get hvs
  let E : Ent := ⟨w, fun _ => False, I⟩
  have hR : R E (startSt n ds) { tmps := vs.toArray ++ Array.replicate (fn.ntmps - vs.toArray.size) undef, defers := [] } w := by
    refine ⟨noLocs, I, ⟨by simp [startSt]; omega, rfl, fun t d hd => ?_, ⟨fun id o ho => by simp [startSt] at ho, fun i1 o1 l1 i2 o2 l2 b h1 => by simp [startSt] at h1, hI⟩, fun _ _ q => q, fun _ _ q => .inl q, Ext.refl _ _, fun id o l b ho => by simp [startSt] at ho⟩⟩
    have hd' : ds[t]? = some d := hd
    have ht := (List.getElem?_eq_some_iff.1 hd').1
    refine ⟨by simp [startSt]; omega, ?_⟩
    have hx : vs[t]? = some (vs[t]'(by omega)) := List.getElem?_eq_getElem (by omega)
    have e : (vs.toArray ++ Array.replicate (fn.ntmps - vs.toArray.size) undef).getD t undef = vs[t]'(by omega) := by
      rw [Array.getD_eq_getD_getElem?, Array.getElem?_append_left (by simp; omega)]
      simp [hx]
    rw [e]
    exact v2 t d _ hd' hx
  refine wp_mono (h E _ _ hR) fun e a' w' ⟨st', ⟨gs, hend⟩, ρ, J, hrb⟩ => ?_
  obtain ⟨he, hlen, hnd, hrall, hoall, hres, hobjs⟩ := hend
  have key : a'.defers = [] ∧ ∃ v, (results fn a'.tmps).run P w' = .ok v w' ∧ ∃ v' ρ' I', Ending.returned v = .returned v' ∧ (∀ b c, I b = some c → I' b = some c) ∧ (∀ b c, I' b = some c → I b = some c ∨ w.heap.size ≤ b) ∧
      Rep I' ρ' r v' ∧ Mem I' ρ' (fun j => objs[j]?) w' ∧ (∀ j l, ρ' j = some l → j < objs.length) ∧ Ext (fun _ => False) w w' ∧ (∀ (j : Nat) o l b, objs[j]? = some o → o.wr = true → ρ' j = some l → l.blk = some b → w.heap.size ≤ b) := by
    refine ⟨hrb.defers, _, run_results hrs a'.tmps, _, fun j => if j < objs.length then ρ (gs.getD j 0) else none, J, rfl, hrb.i0, fun b c q => ?_, ?_, ⟨?_, ?_, hrb.mem.imm⟩, fun j l q => ?_, hrb.ext, ?_⟩
    · rcases hrb.i1 b c q with q | q | q
      · exact .inl q
      · exact q.elim
      · exact .inr q
    · have := Rep.unren r (hrb.result hres)
      exact this.locs (p := fun k => decide (k < objs.length)) (fun k hk => by simp only [decide_eq_true_eq] at hk; simp [hk]) hrall
    · intro j o ho
      have hj := (List.getElem?_eq_some_iff.1 ho).1
      obtain ⟨l, hl, hlaid⟩ := hrb.mem.laid _ _ (hobjs j o ho)
      exact ⟨l, by simp only [hj, if_true]; exact hl, laid_unren hlaid (hoall o (List.mem_of_getElem? ho))⟩
    · intro i1 o1 l1 i2 o2 l2 b h1 m1 e1 b1 h2 m2 e2 b2
      have hj1 := (List.getElem?_eq_some_iff.1 h1).1
      have hj2 := (List.getElem?_eq_some_iff.1 h2).1
      simp only [hj1, if_true] at e1
      simp only [hj2, if_true] at e2
      have := hrb.mem.apart _ _ _ _ _ _ _ (hobjs i1 o1 h1) (by rw [AObj.ren_wr]; exact m1) e1 b1 (hobjs i2 o2 h2) (by rw [AObj.ren_wr]; exact m2) e2 b2
      have q1 : gs.getD i1 0 = gs[i1]'(by omega) := by simp [List.getD, List.getElem?_eq_getElem (show i1 < gs.length by omega)]
      have q2 : gs.getD i2 0 = gs[i2]'(by omega) := by simp [List.getD, List.getElem?_eq_getElem (show i2 < gs.length by omega)]
      rw [q1, q2] at this
      have hp := List.pairwise_iff_getElem.1 hnd
      rcases Nat.lt_trichotomy i1 i2 with g | g | g
      · exact absurd this (hp i1 i2 (by omega) (by omega) g)
      · exact g
      · exact absurd this.symm (hp i2 i1 (by omega) (by omega) g)
    · have q' : (if j < objs.length then ρ (gs.getD j 0) else none) = some l := q
      split at q'
      · assumption
      · cases q'
    · intro j o l b ho hw hl hb
      have hj := (List.getElem?_eq_some_iff.1 ho).1
      simp only [hj, if_true] at hl
      rcases hrb.fresh _ _ _ _ (hobjs j o ho) (by rw [AObj.ren_wr]; exact hw) hl hb with q | q
      · exact q.elim
      · exact q
  rcases he with rfl | rfl <;> exact key

end

/-! ### the program's own table of types -/

def ttOf (P : Program) (T : TypeId) : Option TI :=
  match P.info? T, P.underlying T with
  | some i, some u => match i.zero with
    | some z => if z.cells.size = i.size ∧ (z.cells.all (·.oneCell')) = true then some ⟨u, i.size, i.bytes, z⟩ else none
    | none => none
  | _, _ => none

theorem ttOf_ok (P : Program) : TTok P (ttOf P) := by
  intro T ti h
  unfold ttOf at h
  split at h
  · rename_i i u hi hu
    split at h
    · rename_i z hz
      split at h
      · rename_i hc
        simp only [Option.some.injEq] at h
        subst h
        exact ⟨i, hi, hu, rfl, rfl, hz, hc.1, hc.2⟩
      · cases h
    · cases h
  · cases h

def flOf (P : Program) (T : TypeId) : Array Field := match P.underlying T with
  | some (.struct fs) => fs
  | _ => #[]

end Go.Ab
