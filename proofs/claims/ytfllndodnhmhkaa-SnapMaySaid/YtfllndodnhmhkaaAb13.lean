/-
  ABSTRACT DATA FOR WALKS, 13: from a body's walk to its contract.
-/
import Derived.Test.YtfllndodnhmhkaaAb12
namespace Go.Ab
set_option linter.unusedSimpArgs false
set_option linter.unusedVariables false

def resV (rs : List Tmp) (tmps : Array Value) : Value := match rs with
  | [t] => tmps.getD t undef
  | ts => .tuple (ts.map fun t => tmps.getD t undef).toArray

section
variable {P : Program} {E : Ent} {st : St} {a : Act} {w w' : World} {ρ : Locs} {I J : Imm} {tt : TypeId → Option TI}

theorem results_list (tmps : Array Value) (g : ResultVar → Sem Value) (hg : ∀ t, g (.tmp t) = pure (tmps.getD t undef)) : ∀ rs : List Tmp, ((rs.map ResultVar.tmp).mapM g).run P w = .ok (rs.map fun t => tmps.getD t undef) w
  | [] => rfl
  | t :: rs => by
    simp only [List.map_cons, List.mapM_cons, hg, Sem.run_bind, Sem.run_pure, Result.andThen_ok, results_list tmps g hg rs]

theorem run_results {fn : Func} {rs : List Tmp} (hr : fn.results = (rs.map ResultVar.tmp).toArray) (tmps : Array Value) : (results fn tmps).run P w = .ok (resV rs tmps) w := by
  unfold results
  rw [hr]
  have := fun g hg => mapM_array_list (P := P) (w := w) g (rs.map ResultVar.tmp).toArray _ (results_list tmps g hg rs)
  rw [Sem.run_bind, this _ (fun t => rfl)]
  simp only [Result.andThen_ok, Sem.run_pure]
  congr 1
  match rs with
  | [] => simp [resV]
  | [t] => simp [resV]
  | t :: u :: rs => simp [resV]

theorem RB.result (h : RB E st a w ρ I) {rs : List Tmp} {d : D} (hd : st.result rs = some d) : Rep I ρ d (resV rs a.tmps) := by
  match rs, hd with
  | [t], hd => exact (h.slots t d hd).2
  | [], hd =>
    simp only [St.result, St.evL, List.map_nil, Option.some.injEq] at hd
    subst hd
    exact .tup _ _ _ rfl (by simp)
  | t :: u :: rs, hd =>
    simp only [St.result] at hd
    split at hd
    · rename_i ds hds
      simp only [Option.some.injEq] at hd
      subst hd
      obtain ⟨q1, q2⟩ := RepL.get (h.evL hds)
      have e : (((t :: u :: rs).map Operand.tmp).map a.eval) = (t :: u :: rs).map fun t => a.tmps.getD t undef := by simp [Act.eval]
      rw [e] at q1 q2
      exact .tup _ _ _ (by simpa using q1) fun i d x h1 h2 => q2 i d x h1 (by simpa [resV] using h2)
    · cases hd

/-- The contract of a function, from the walk of its body. -/
theorem contract_of_awp {f : FuncId} {fn : Func} {c : Code} {n : Nat} {rs : List Tmp} {ds : List D} {r : D} {objs : List AObj} (hf : P.funcs[f]? = some fn) (hb : fn.body = some c) (hn : fn.ntmps = n) (hds : ds.length ≤ n)
    (hrs : fn.results = (rs.map ResultVar.tmp).toArray) (h : ∀ E, AWP P E c (fun e s => ∃ gs, Ends rs r objs gs e s) (startSt n ds)) : Contract P f ds r objs := by
  intro w I vs hI hvs
  refine calls_of_wp hf hb ?_
  obtain ⟨v1, v2⟩ := RepL.get hvs
  let E : Ent := ⟨w, fun _ => False, I, noLocs⟩
  have hR : R E (startSt n ds) { tmps := vs.toArray ++ Array.replicate (fn.ntmps - vs.toArray.size) undef, defers := [] } w := by
    refine ⟨noLocs, I, ⟨by simp [startSt]; omega, rfl, fun t d hd => ?_, ⟨fun id o ho => by simp [startSt] at ho, fun i1 o1 l1 i2 o2 l2 b h1 => by simp [startSt] at h1, hI⟩, fun _ _ q => q, fun _ _ q => .inl q, Ext.refl _ _, fun id o l b ho => by simp [startSt] at ho, fun id o ho => by simp [startSt] at ho⟩⟩
    have hd' : ds[t]? = some d := hd
    have ht := (List.getElem?_eq_some_iff.1 hd').1
    refine ⟨by simp [startSt]; omega, ?_⟩
    have hx : vs[t]? = some (vs[t]'(by omega)) := List.getElem?_eq_getElem (by omega)
    have e : (vs.toArray ++ Array.replicate (fn.ntmps - vs.toArray.size) undef).getD t undef = vs[t]'(by omega) := by
      rw [Array.getD_eq_getD_getElem?, Array.getElem?_append_left (by simp; omega)]
      simp [hx]
    rw [e]
    exact v2 t d _ hd' hx
  refine wp_mono (h E _ _ hR) fun e a' w' ⟨st', ⟨gs, hend⟩, ρ, J, hrb⟩ => ?_
  obtain ⟨he, hlen, hnd, hrall, hoall, hres, hobjs⟩ := hend
  have key : a'.defers = [] ∧ ∃ v, (results fn a'.tmps).run P w' = .ok v w' ∧ ∃ v' ρ' I', Ending.returned v = .returned v' ∧ (∀ b c, I b = some c → I' b = some c) ∧ (∀ b c, I' b = some c → I b = some c ∨ w.heap.size ≤ b) ∧
      Rep I' ρ' r v' ∧ Mem I' ρ' (fun j => objs[j]?) w' ∧ (∀ j l, ρ' j = some l → j < objs.length) ∧ Ext (fun _ => False) w w' ∧ (∀ (j : Nat) o l b, objs[j]? = some o → o.wr = true → ρ' j = some l → l.blk = some b → w.heap.size ≤ b) := by
    refine ⟨hrb.defers, _, run_results hrs a'.tmps, _, fun j => if j < objs.length then ρ (gs.getD j 0) else none, J, rfl, hrb.i0, fun b c q => ?_, ?_, ⟨?_, ?_, hrb.mem.imm⟩, fun j l q => ?_, hrb.ext, ?_⟩
    · rcases hrb.i1 b c q with q | q | q
      · exact .inl q
      · exact q.elim
      · exact .inr q
    · have := Rep.unren r (hrb.result hres)
      exact this.locs (p := fun k => decide (k < objs.length)) (fun k hk => by simp only [decide_eq_true_eq] at hk; simp [hk]) hrall
    · intro j o ho
      have hj := (List.getElem?_eq_some_iff.1 ho).1
      obtain ⟨l, hl, hlaid⟩ := hrb.mem.laid _ _ (hobjs j o ho)
      exact ⟨l, by simp only [hj, if_true]; exact hl, laid_unren hlaid (hoall o (List.mem_of_getElem? ho))⟩
    · intro i1 o1 l1 i2 o2 l2 b h1 m1 e1 b1 h2 m2 e2 b2
      have hj1 := (List.getElem?_eq_some_iff.1 h1).1
      have hj2 := (List.getElem?_eq_some_iff.1 h2).1
      simp only [hj1, if_true] at e1
      simp only [hj2, if_true] at e2
      have := hrb.mem.apart _ _ _ _ _ _ _ (hobjs i1 o1 h1) (by rw [AObj.ren_wr]; exact m1) e1 b1 (hobjs i2 o2 h2) (by rw [AObj.ren_wr]; exact m2) e2 b2
      have q1 : gs.getD i1 0 = gs[i1]'(by omega) := by simp [List.getD, List.getElem?_eq_getElem (show i1 < gs.length by omega)]
      have q2 : gs.getD i2 0 = gs[i2]'(by omega) := by simp [List.getD, List.getElem?_eq_getElem (show i2 < gs.length by omega)]
      rw [q1, q2] at this
      have hp := List.pairwise_iff_getElem.1 hnd
      rcases Nat.lt_trichotomy i1 i2 with g | g | g
      · exact absurd this (hp i1 i2 (by omega) (by omega) g)
      · exact g
      · exact absurd this.symm (hp i2 i1 (by omega) (by omega) g)
    · have q' : (if j < objs.length then ρ (gs.getD j 0) else none) = some l := q
      split at q'
      · assumption
      · cases q'
    · intro j o l b ho hw hl hb
      have hj := (List.getElem?_eq_some_iff.1 ho).1
      simp only [hj, if_true] at hl
      rcases hrb.fresh _ _ _ _ (hobjs j o ho) (by rw [AObj.ren_wr]; exact hw) hl hb with q | q
      · exact q.elim
      · exact q
  rcases he with rfl | rfl <;> exact key

theorem liveB_outAt : ∀ {outs : List (Option AObj)} {k : Nat}, liveB outs k = (outAt outs k).isSome
  | [], k => by simp [liveB, outAt]
  | o :: os, 0 => by simp [liveB, outAt]
  | o :: os, k + 1 => by
    have := liveB_outAt (outs := os) (k := k)
    simpa [liveB, outAt] using this

theorem outsOk_get {outs : List (Option AObj)} : ∀ {os : List (Option AObj)}, outsOk outs os = true → ∀ {j : Nat} {o : AObj}, outAt os j = some o → o.flat = true ∨ o.rows.all (D.allL fun k => liveB outs k) = true
  | [], _, j, o, h => by simp [outAt] at h
  | none :: os, hk, 0, o, h => by simp [outAt] at h
  | none :: os, hk, j + 1, o, h => outsOk_get (os := os) hk (j := j) (by simpa [outAt] using h)
  | some o1 :: os, hk, 0, o, h => by
    simp only [outsOk, Bool.and_eq_true] at hk
    simp [outAt] at h; subst h
    simpa using hk.1
  | some o1 :: os, hk, j + 1, o, h => by
    simp only [outsOk, Bool.and_eq_true] at hk
    exact outsOk_get (os := os) hk.2 (j := j) (by simpa [outAt] using h)

theorem outsAt_get {st : St} {k : Nat} {gs : List Nat} : ∀ {os : List (Option AObj)} {j : Nat}, OutsAt st k gs os j → ∀ {i : Nat} {o : AObj}, outAt os i = some o →
    ∃ o', st.heap (gs.getD (j + i) 0) = some o' ∧ o'.bare = (o.ren fun j => gs.getD j 0).bare ∧ (j + i < k → gs.getD (j + i) 0 = j + i ∧ pinAt st.heap (j + i) = true)
  | [], _, _, i, o, h => by simp [outAt] at h
  | none :: os, j, hk, 0, o, h => by simp [outAt] at h
  | none :: os, j, hk, i + 1, o, h => by
    have := outsAt_get (os := os) (j := j + 1) hk (i := i) (o := o) (by simpa [outAt] using h)
    rwa [show j + 1 + i = j + (i + 1) by omega] at this
  | some o1 :: os, j, hk, 0, o, h => by
    simp [outAt] at h; subst h
    obtain ⟨o', h1, h2⟩ := Option.map_eq_some_iff.1 hk.1.1
    exact ⟨o', by simpa using h1, h2, by simpa using hk.1.2⟩
  | some o1 :: os, j, hk, i + 1, o, h => by
    have := outsAt_get (os := os) (j := j + 1) hk.2 (i := i) (o := o) (by simpa [outAt] using h)
    rwa [show j + 1 + i = j + (i + 1) by omega] at this

theorem liveIds_mem {gs : List Nat} : ∀ {os : List (Option AObj)} {j i : Nat}, (outAt os i).isSome = true → gs.getD (j + i) 0 ∈ liveIds gs os j
  | [], j, i, h => by simp [outAt] at h
  | none :: os, j, 0, h => by simp [outAt] at h
  | none :: os, j, i + 1, h => by
    have := liveIds_mem (gs := gs) (os := os) (j := j + 1) (i := i) (by simpa [outAt] using h)
    rw [show j + 1 + i = j + (i + 1) by omega] at this
    exact this
  | some o :: os, j, 0, h => by simp [liveIds]
  | some o :: os, j, i + 1, h => by
    have := liveIds_mem (gs := gs) (os := os) (j := j + 1) (i := i) (by simpa [outAt] using h)
    rw [show j + 1 + i = j + (i + 1) by omega] at this
    exact List.mem_cons_of_mem _ this

theorem liveIds_inj {gs : List Nat} : ∀ {os : List (Option AObj)} {j i1 i2 : Nat}, (liveIds gs os j).Nodup → (outAt os i1).isSome = true → (outAt os i2).isSome = true → gs.getD (j + i1) 0 = gs.getD (j + i2) 0 → i1 = i2
  | [], j, i1, i2, _, h, _, _ => by simp [outAt] at h
  | none :: os, j, 0, i2, _, h, _, _ => by simp [outAt] at h
  | none :: os, j, i1 + 1, 0, _, _, h, _ => by simp [outAt] at h
  | none :: os, j, i1 + 1, i2 + 1, hn, h1, h2, e => by
    have := liveIds_inj (gs := gs) (os := os) (j := j + 1) (i1 := i1) (i2 := i2) hn (by simpa [outAt] using h1) (by simpa [outAt] using h2) (by rw [show j + 1 + i1 = j + (i1 + 1) by omega, show j + 1 + i2 = j + (i2 + 1) by omega]; exact e)
    omega
  | some o :: os, j, 0, 0, _, _, _, _ => rfl
  | some o :: os, j, 0, i2 + 1, hn, h1, h2, e => by
    simp only [liveIds, List.nodup_cons] at hn
    have := liveIds_mem (gs := gs) (os := os) (j := j + 1) (i := i2) (by simpa [outAt] using h2)
    rw [show j + 1 + i2 = j + (i2 + 1) by omega, ← e] at this
    exact absurd this hn.1
  | some o :: os, j, i1 + 1, 0, hn, h1, h2, e => by
    simp only [liveIds, List.nodup_cons] at hn
    have := liveIds_mem (gs := gs) (os := os) (j := j + 1) (i := i1) (by simpa [outAt] using h1)
    rw [show j + 1 + i1 = j + (i1 + 1) by omega, e] at this
    exact absurd this hn.1
  | some o :: os, j, i1 + 1, i2 + 1, hn, h1, h2, e => by
    simp only [liveIds, List.nodup_cons] at hn
    have := liveIds_inj (gs := gs) (os := os) (j := j + 1) (i1 := i1) (i2 := i2) hn.2 (by simpa [outAt] using h1) (by simpa [outAt] using h2) (by rw [show j + 1 + i1 = j + (i1 + 1) by omega, show j + 1 + i2 = j + (i2 + 1) by omega]; exact e)
    omega

theorem laid_unren_p {σ : Nat → Nat} {o : AObj} {l : Loc} {p : Nat → Bool} (h : LaidObj I ρ w (o.ren σ) l) (hf : o.flat = true ∨ o.rows.all (D.allL p) = true) :
    LaidObj I (fun j => if p j = true then ρ (σ j) else none) w o l := by
  cases hfl : o.flat with
  | true =>
    have e : o.ren σ = o := by simp [AObj.ren, hfl]
    rw [e] at h
    refine ⟨h.sz, h.pos, h.rows, h.cap, ?_⟩
    rcases h.mem with g0 | ⟨b, c, e, lo, hi, g1, g2, g3, g4, g5, g6, hone, g7⟩
    · exact .inl g0
    · refine .inr ⟨b, c, e, lo, hi, g1, g2, g3, g4, g5, g6, hone, fun i j row d x q1 q2 q3 => ?_⟩
      have := g7 i j row d x q1 q2 q3
      simpa [hfl] using this
  | false =>
    have hall : o.rows.all (D.allL p) = true := by simpa [hfl] using hf
    have e : o.ren σ = { o with rows := o.rows.map (D.renL σ) } := by simp [AObj.ren, hfl]
    rw [e] at h
    have hget : ∀ (i : Nat) (row : List D), o.rows[i]? = some row → (o.rows.map (D.renL σ))[i]? = some (D.renL σ row) := fun i row hr => by rw [List.getElem?_map, hr]; rfl
    refine ⟨h.sz, h.pos, fun row hr => ?_, by simpa using h.cap, ?_⟩
    · obtain ⟨i, hi⟩ := List.getElem?_of_mem hr
      have := h.rows _ (List.mem_of_getElem? (hget i row hi))
      rwa [D.renL_length] at this
    · rcases h.mem with g0 | ⟨b, c, e, lo, hi, g1, g2, g3, g4, g5, g6, hone, g7⟩
      · exact .inl g0
      · refine .inr ⟨b, c, e, lo, hi, g1, g2, g3, g4, g5, g6, hone, fun i j row d x q1 q2 q3 => ?_⟩
        have hd : (D.renL σ row)[j]? = some (d.ren σ) := by rw [D.renL_get, q2]; rfl
        have := g7 i j _ _ x (hget i row q1) hd q3
        simp only [hfl] at this ⊢
        have h2 := Rep.unren d this
        have hall' : d.all p = true := D.allL_get (List.all_eq_true.1 hall row (List.mem_of_getElem? q1)) q2
        exact h2.locs (p := p) (fun k hk => by simp [hk]) hall'

/-- The contract of a function that is handed objects, from the walk of its body. -/
theorem contractM_of_awp {f : FuncId} {fn : Func} {c : Code} {n : Nat} {rs : List Tmp} {ins : List AObj} {ds : List D} {r : D} {outs : List (Option AObj)} (hf : P.funcs[f]? = some fn) (hb : fn.body = some c) (hn : fn.ntmps = n) (hds : ds.length ≤ n)
    (hrs : fn.results = (rs.map ResultVar.tmp).toArray) (h : ∀ E, AWP P E c (fun e s => ∃ gs, EndsM ins.length rs r outs gs e s) (startM n ins ds)) : ContractM P f ins ds r outs := by
  intro w I ρ vs hM hvs
  refine calls_of_wp hf hb ?_
  obtain ⟨v1, v2⟩ := RepL.get hvs
  let E : Ent := ⟨w, InsBlk ins ρ, I, ρ⟩
  have hstart : ∀ id o, (startM n ins ds).heap id = some o → ∃ o0, ins[id]? = some o0 ∧ o = o0.pinned := by
    intro id o ho
    obtain ⟨o0, h1, h2⟩ := Option.map_eq_some_iff.1 (show (ins[id]?).map AObj.pinned = some o from ho)
    exact ⟨o0, h1, h2.symm⟩
  have hR : R E (startM n ins ds) { tmps := vs.toArray ++ Array.replicate (fn.ntmps - vs.toArray.size) undef, defers := [] } w := by
    refine ⟨ρ, I, ⟨by simp [startM]; omega, rfl, fun t d hd => ?_, ⟨fun id o ho => ?_, fun i1 o1 l1 i2 o2 l2 b h1 m1 e1 b1 h2 m2 e2 b2 => ?_, hM.imm⟩, fun _ _ q => q, fun _ _ q => .inl q, Ext.refl _ _, fun id o l b ho hw hl hb => ?_, fun id o ho hp => rfl⟩⟩
    · have hd' : ds[t]? = some d := hd
      have ht := (List.getElem?_eq_some_iff.1 hd').1
      refine ⟨by simp [startM]; omega, ?_⟩
      have hx : vs[t]? = some (vs[t]'(by omega)) := List.getElem?_eq_getElem (by omega)
      have e : (vs.toArray ++ Array.replicate (fn.ntmps - vs.toArray.size) undef).getD t undef = vs[t]'(by omega) := by
        rw [Array.getD_eq_getD_getElem?, Array.getElem?_append_left (by simp; omega)]
        simp [hx]
      rw [e]
      exact v2 t d _ hd' hx
    · obtain ⟨o0, h1, rfl⟩ := hstart id o ho
      obtain ⟨l, el, hl⟩ := hM.laid id o0 h1
      exact ⟨l, el, hl.pinAny true⟩
    · obtain ⟨q1, g1, rfl⟩ := hstart i1 o1 h1
      obtain ⟨q2, g2, rfl⟩ := hstart i2 o2 h2
      exact hM.apart _ _ _ _ _ _ _ g1 m1 e1 b1 g2 m2 e2 b2
    · obtain ⟨o0, h1, rfl⟩ := hstart id o ho
      exact .inl ⟨id, o0, l, h1, hw, hl, hb⟩
  refine wp_mono (h E _ _ hR) fun e a' w' ⟨st', ⟨gs, hend⟩, ρ2, J, hrb⟩ => ?_
  obtain ⟨he, hrall, hoall, hnd, hres, hat⟩ := hend
  have hget : ∀ j o, outAt outs j = some o → ∃ o', st'.heap (gs.getD j 0) = some o' ∧ o'.bare = (o.ren fun j => gs.getD j 0).bare ∧ (j < ins.length → gs.getD j 0 = j ∧ pinAt st'.heap j = true) ∧ o'.wr = o.wr := by
    intro j o ho
    obtain ⟨o', h1, h2, h3⟩ := outsAt_get hat ho
    rw [Nat.zero_add] at h1 h3
    refine ⟨o', h1, h2, h3, ?_⟩
    have := congrArg AObj.wr h2
    rw [show (o.ren fun j => gs.getD j 0).bare.wr = (o.ren fun j => gs.getD j 0).wr from rfl, AObj.ren_wr] at this
    exact this
  have key : a'.defers = [] ∧ ∃ v, (results fn a'.tmps).run P w' = .ok v w' ∧ ∃ v' ρ' I', Ending.returned v = .returned v' ∧ (∀ b c, I b = some c → I' b = some c) ∧ (∀ b c, I' b = some c → I b = some c ∨ InsBlk ins ρ b ∨ w.heap.size ≤ b) ∧
      Rep I' ρ' r v' ∧ Mem I' ρ' (outAt outs) w' ∧ (∀ j l, ρ' j = some l → (outAt outs j).isSome = true) ∧ Ext (InsBlk ins ρ) w w' ∧ (∀ (j : Nat) o l b, outAt outs j = some o → o.wr = true → ρ' j = some l → l.blk = some b → InsBlk ins ρ b ∨ w.heap.size ≤ b) ∧
      (∀ j, j < ins.length → (outAt outs j).isSome = true → ρ' j = ρ j) := by
    refine ⟨hrb.defers, _, run_results hrs a'.tmps, _, fun j => if liveB outs j = true then ρ2 (gs.getD j 0) else none, J, rfl, hrb.i0, hrb.i1, ?_, ⟨?_, ?_, hrb.mem.imm⟩, fun j l q => ?_, hrb.ext, ?_, ?_⟩
    · have := Rep.unren r (hrb.result hres)
      exact this.locs (p := fun k => liveB outs k) (fun k hk => by simp only [hk, if_true]) hrall
    · intro j o ho
      obtain ⟨o', h1, h2, h3, h4⟩ := hget j o ho
      obtain ⟨l, hl, hlaid⟩ := hrb.mem.laid _ _ h1
      have hlv : liveB outs j = true := by rw [liveB_outAt, ho]; rfl
      exact ⟨l, by simp only [hlv, if_true]; exact hl, laid_unren_p (hlaid.ofBare h2) (outsOk_get hoall ho)⟩
    · intro i1 o1 l1 i2 o2 l2 b h1 m1 e1 b1 h2 m2 e2 b2
      obtain ⟨o1', p1, p2, p3, p4⟩ := hget i1 o1 h1
      obtain ⟨o2', r1, r2, r3, r4⟩ := hget i2 o2 h2
      have hl1 : liveB outs i1 = true := by rw [liveB_outAt, h1]; rfl
      have hl2 : liveB outs i2 = true := by rw [liveB_outAt, h2]; rfl
      simp only [hl1, if_true] at e1
      simp only [hl2, if_true] at e2
      have := hrb.mem.apart _ _ _ _ _ _ _ p1 (p4.trans m1) e1 b1 r1 (r4.trans m2) e2 b2
      exact liveIds_inj (gs := gs) (os := outs) (j := 0) hnd (by simp [h1]) (by simp [h2]) (by simpa using this)
    · have q' : (if liveB outs j = true then ρ2 (gs.getD j 0) else none) = some l := q
      split at q'
      · rename_i hlv; rwa [liveB_outAt] at hlv
      · cases q'
    · intro j o l b ho hw hl hb
      obtain ⟨o', h1, h2, h3, h4⟩ := hget j o ho
      have hl1 : liveB outs j = true := by rw [liveB_outAt, ho]; rfl
      simp only [hl1, if_true] at hl
      exact hrb.fresh _ _ _ _ h1 (h4.trans hw) hl hb
    · intro j hj hlive
      obtain ⟨o, ho⟩ := Option.isSome_iff_exists.1 hlive
      obtain ⟨o', h1, h2, h3, h4⟩ := hget j o ho
      obtain ⟨e1, hp⟩ := h3 hj
      rw [e1] at h1
      have hpin : o'.pin = true := by simpa [pinAt, h1] using hp
      have hlv : liveB outs j = true := by rw [liveB_outAt, ho]; rfl
      simp only [hlv, if_true, e1]
      exact hrb.pins j o' h1 hpin
  rcases he with rfl | rfl <;> exact key

end

/-! ### the program's own table of types -/

def ttOf (P : Program) (T : TypeId) : Option TI :=
  match P.info? T, P.underlying T with
  | some i, some u => match i.zero with
    | some z => if z.cells.size = i.size ∧ (z.cells.all (·.oneCell')) = true then some ⟨u, i.size, i.bytes, z, eqOkB P T u i.size⟩ else none
    | none => none
  | _, _ => none

theorem ttOf_ok (P : Program) : TTok P (ttOf P) := by
  intro T ti h
  unfold ttOf at h
  split at h
  · rename_i i u hi hu
    split at h
    · rename_i z hz
      split at h
      · rename_i hc
        simp only [Option.some.injEq] at h
        subst h
        exact ⟨i, hi, hu, rfl, rfl, hz, hc.1, hc.2, fun h => h⟩
      · cases h
    · cases h
  · cases h

def flOf (P : Program) (T : TypeId) : Array Field := match P.underlying T with
  | some (.struct fs) => fs
  | _ => #[]

end Go.Ab
