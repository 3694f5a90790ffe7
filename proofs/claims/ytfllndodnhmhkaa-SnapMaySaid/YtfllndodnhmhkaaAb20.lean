/-
  ABSTRACT DATA FOR WALKS, 20: results that lie in memory.
-/
import Derived.Test.YtfllndodnhmhkaaAb19
namespace Go.Ab
set_option linter.unusedSimpArgs false
set_option linter.unusedVariables false

def St.res1 (tt : TypeId → Option TI) (st : St) : ResultVar → Option (Prop × D)
  | .tmp t => match st.slots t with
    | some d => some (True, d)
    | none => none
  | .cell t T => match st.slots t with
    | some d => valLoad tt st T d
    | none => none
def St.resL (tt : TypeId → Option TI) (st : St) : List ResultVar → Option (Prop × List D)
  | [] => some (True, [])
  | r :: rs => match st.res1 tt r, st.resL tt rs with
    | some (p, d), some (q, ds) => some (p ∧ q, d :: ds)
    | _, _ => none
def St.resultV (tt : TypeId → Option TI) (st : St) : List ResultVar → Option (Prop × D)
  | [r] => st.res1 tt r
  | rs => match st.resL tt rs with
    | some (p, ds) => some (p, .tup ds)
    | none => none

def EndsV (tt : TypeId → Option TI) (rs : List ResultVar) (r : D) (objs : List AObj) (gs : List Nat) (e : Exit) (st : St) : Prop :=
  (e = .normal ∨ e = .ret) ∧ gs.length = objs.length ∧ gs.Nodup ∧ (r.all fun k => decide (k < objs.length)) = true ∧ (∀ o ∈ objs, o.flat = true ∨ o.rows.all (D.allL fun k => decide (k < objs.length)) = true) ∧
    (∃ p, st.resultV tt rs = some (p, r.ren fun j => gs.getD j 0) ∧ p) ∧ ∀ j o, objs[j]? = some o → st.heap (gs.getD j 0) = some (o.ren fun j => gs.getD j 0)
def EndsMV (tt : TypeId → Option TI) (k : Nat) (rs : List ResultVar) (r : D) (outs : List (Option AObj)) (gs : List Nat) (e : Exit) (st : St) : Prop :=
  (e = .normal ∨ e = .ret) ∧ (r.all fun k => liveB outs k) = true ∧ outsOk outs outs = true ∧ (liveIds gs outs 0).Nodup ∧ (∃ p, st.resultV tt rs = some (p, r.ren fun j => gs.getD j 0) ∧ p) ∧ OutsAt st k gs outs 0

section
variable {P : Program} {E : Ent} {st : St} {a : Act} {w w' : World} {ρ : Locs} {I J : Imm} {tt : TypeId → Option TI}

theorem run_valVar (ht : TTok P tt) (h : RB E st a w ρ I) {T : TypeId} {x r : D} {p : Prop} {u : Value} (hv : valLoad tt st T x = some (p, r)) (hp : p) (hu : Rep I ρ x u) :
    ∃ z, (do loadVar T (← asAddr u) : Sem Value).run P w = .ok z w ∧ Rep I ρ r z := by
  unfold valLoad at hv
  split at hv
  · rename_i ti q row k hti hrow
    have hund := und_of ht hti
    split at hv
    · rename_i hagg
      simp only [Option.some.injEq, Prod.mk.injEq] at hv
      obtain ⟨rfl, rfl⟩ := hv
      obtain ⟨b, o, rfl, hr⟩ := h.rowOf hrow hp.1 hu
      have hlen : ((row.drop k).take ti.sz).length = ti.sz := by simp; omega
      obtain ⟨cs, c1, c2, c3⟩ := ((hr.drop k).take ti.sz).load (P := P)
      rw [hlen] at c1 c2
      refine ⟨.agg cs.toArray, ?_, .agg _ _ _ (by simp; omega) fun i d x h1 h2 => c3 i d x h1 (by simpa using h2)⟩
      simp [asAddr, loadVar, run_isAgg hund, hagg, run_sizeOf ht hti, c2]
    · rename_i hagg
      simp only [Option.some.injEq, Prod.mk.injEq] at hv
      obtain ⟨rfl, rfl⟩ := hv
      obtain ⟨b, o, rfl, hr⟩ := h.rowOf hrow hp.1 hu
      obtain ⟨y, q1, q2, q3⟩ := hr k _ (List.getElem?_eq_getElem hp.2)
      refine ⟨y, ?_, by simpa [List.getD, List.getElem?_eq_getElem hp.2] using q3⟩
      simp [asAddr, loadVar, run_isAgg hund, hagg, q1]
  · cases hv

def resSem (tmps : Array Value) : ResultVar → Sem Value
  | .tmp t => pure (tmps.getD t undef)
  | .cell a t => do loadVar t (← asAddr (tmps.getD a undef))

theorem RB.res1 (ht : TTok P tt) (h : RB E st a w ρ I) {r : ResultVar} {p : Prop} {d : D} (hd : st.res1 tt r = some (p, d)) (hp : p) : ∃ z, (resSem a.tmps r).run P w = .ok z w ∧ Rep I ρ d z := by
  cases r with
  | tmp t =>
    simp only [St.res1] at hd
    split at hd
    · rename_i d' hs
      simp only [Option.some.injEq, Prod.mk.injEq] at hd
      obtain ⟨rfl, rfl⟩ := hd
      exact ⟨_, rfl, (h.slots t _ hs).2⟩
    · cases hd
  | cell t T =>
    simp only [St.res1] at hd
    split at hd
    · rename_i d' hs
      exact run_valVar ht h hd hp (h.slots t _ hs).2
    · cases hd

theorem RB.resL (ht : TTok P tt) (h : RB E st a w ρ I) : ∀ {rs : List ResultVar} {p : Prop} {ds : List D}, st.resL tt rs = some (p, ds) → p → ∃ zs, (rs.mapM (resSem a.tmps)).run P w = .ok zs w ∧ RepL I ρ ds zs
  | [], p, ds, hd, hp => by
    simp only [St.resL, Option.some.injEq, Prod.mk.injEq] at hd
    obtain ⟨_, rfl⟩ := hd
    exact ⟨[], rfl, trivial⟩
  | r :: rs, p, ds, hd, hp => by
    simp only [St.resL] at hd
    split at hd
    · rename_i p1 d1 q ds1 e1 e2
      simp only [Option.some.injEq, Prod.mk.injEq] at hd
      obtain ⟨rfl, rfl⟩ := hd
      obtain ⟨z, z1, z2⟩ := h.res1 ht e1 hp.1
      obtain ⟨zs, y1, y2⟩ := RB.resL ht h e2 hp.2
      refine ⟨z :: zs, ?_, z2, y2⟩
      simp only [List.mapM_cons, Sem.run_bind, z1, Result.andThen_ok, y1, Sem.run_pure]
    · cases hd

theorem RB.resultV (ht : TTok P tt) (h : RB E st a w ρ I) {fn : Func} {rs : List ResultVar} (hr : fn.results = rs.toArray) {d : D} (hd : ∃ p, st.resultV tt rs = some (p, d) ∧ p) : ∃ z, (results fn a.tmps).run P w = .ok z w ∧ Rep I ρ d z := by
  obtain ⟨p, hd, hp⟩ := hd
  have hrun : ∀ (rs : List ResultVar), fn.results = rs.toArray → ∀ zs, (rs.mapM (resSem a.tmps)).run P w = .ok zs w → (results fn a.tmps).run P w = .ok (if h : zs.toArray.size = 1 then zs.toArray[0] else .tuple zs.toArray) w := by
    intro rs hr zs hz
    unfold results
    rw [hr]
    have hm := mapM_array_list (P := P) (w := w) (resSem a.tmps) rs.toArray _ hz
    have key : ∀ g : ResultVar → Sem Value, (∀ r, g r = resSem a.tmps r) → (Array.mapM g rs.toArray).run P w = .ok zs.toArray w := fun g hg => by rw [funext hg]; exact hm
    rw [Sem.run_bind, key _ (fun r => by cases r <;> rfl)]
    simp only [Result.andThen_ok, Sem.run_pure]
  match rs, hr, hd with
  | [r], hr, hd =>
    obtain ⟨z, z1, z2⟩ := h.res1 ht hd hp
    have hz : ([r].mapM (resSem a.tmps)).run P w = .ok [z] w := by
      simp only [List.mapM_cons, List.mapM_nil, Sem.run_bind, z1, Result.andThen_ok, Sem.run_pure]
    exact ⟨z, hrun _ hr _ hz, z2⟩
  | [], hr, hd =>
    simp only [St.resultV, St.resL, Option.some.injEq, Prod.mk.injEq] at hd
    obtain ⟨_, rfl⟩ := hd
    exact ⟨_, hrun _ hr [] rfl, .tup _ _ _ rfl (by simp)⟩
  | r1 :: r2 :: rs, hr, hd =>
    simp only [St.resultV] at hd
    split at hd
    · rename_i q ds hds
      simp only [Option.some.injEq, Prod.mk.injEq] at hd
      obtain ⟨rfl, rfl⟩ := hd
      obtain ⟨zs, z1, z2⟩ := h.resL ht hds hp
      refine ⟨_, hrun _ hr zs z1, ?_⟩
      obtain ⟨q1, q2⟩ := RepL.get z2
      have hlen : ∀ {rs : List ResultVar} {p : Prop} {ds : List D}, st.resL tt rs = some (p, ds) → ds.length = rs.length := by
        intro rs
        induction rs with
        | nil => intro p ds hd; simp only [St.resL, Option.some.injEq, Prod.mk.injEq] at hd; obtain ⟨_, rfl⟩ := hd; rfl
        | cons r rs ih =>
          intro p ds hd
          simp only [St.resL] at hd
          split at hd
          · rename_i e1 e2
            simp only [Option.some.injEq, Prod.mk.injEq] at hd
            obtain ⟨_, rfl⟩ := hd
            simp [ih e2]
          · cases hd
      have hl := hlen hds
      have hne : ¬ zs.toArray.size = 1 := by simp only [List.size_toArray, ← q1, hl, List.length_cons]; omega
      rw [dif_neg hne]
      exact .tup _ _ _ (by simpa using q1) fun i d x h1 h2 => q2 i d x h1 (by simpa using h2)
    · cases hd

/-- The contract of a function, from the walk of its body. -/
theorem contract_of_awpV (ht : TTok P tt) {f : FuncId} {fn : Func} {c : Code} {n : Nat} {rs : List ResultVar} {ds : List D} {r : D} {objs : List AObj} (hf : P.funcs[f]? = some fn) (hb : fn.body = some c) (hn : fn.ntmps = n) (hds : ds.length ≤ n)
    (hrs : fn.results = rs.toArray) (h : ∀ E, AWP P E c (fun e s => ∃ gs, EndsV tt rs r objs gs e s) (startSt n ds)) : Contract P f ds r objs := by
  intro w I vs hI hvs
  refine calls_of_wp hf hb ?_
  obtain ⟨v1, v2⟩ := RepL.get hvs
  let E : Ent := ⟨w, fun _ => False, I, noLocs⟩
  have hR : R E (startSt n ds) { tmps := vs.toArray ++ Array.replicate (fn.ntmps - vs.toArray.size) undef, defers := [] } w := by
    refine ⟨noLocs, I, ⟨by simp [startSt]; omega, rfl, fun t d hd => ?_, ⟨fun id o ho => by simp [startSt] at ho, fun i1 o1 l1 i2 o2 l2 b h1 => by simp [startSt] at h1, hI⟩, fun _ _ q => q, fun _ _ q => .inl q, Ext.refl _ _, fun id o l b ho => by simp [startSt] at ho, fun id o ho => by simp [startSt] at ho⟩⟩
    have hd' : ds[t]? = some d := hd
    have ht := (List.getElem?_eq_some_iff.1 hd').1
    refine ⟨by simp [startSt]; omega, ?_⟩
    have hx : vs[t]? = some (vs[t]'(by omega)) := List.getElem?_eq_getElem (by omega)
    have e : (vs.toArray ++ Array.replicate (fn.ntmps - vs.toArray.size) undef).getD t undef = vs[t]'(by omega) := by
      rw [Array.getD_eq_getD_getElem?, Array.getElem?_append_left (by simp; omega)]
      simp [hx]
    rw [e]
    exact v2 t d _ hd' hx
  refine wp_mono (h E _ _ hR) fun e a' w' ⟨st', ⟨gs, hend⟩, ρ, J, hrb⟩ => ?_
  obtain ⟨he, hlen, hnd, hrall, hoall, hres, hobjs⟩ := hend
  have key : a'.defers = [] ∧ ∃ v, (results fn a'.tmps).run P w' = .ok v w' ∧ ∃ v' ρ' I', Ending.returned v = .returned v' ∧ (∀ b c, I b = some c → I' b = some c) ∧ (∀ b c, I' b = some c → I b = some c ∨ w.heap.size ≤ b) ∧
      Rep I' ρ' r v' ∧ Mem I' ρ' (fun j => objs[j]?) w' ∧ (∀ j l, ρ' j = some l → j < objs.length) ∧ Ext (fun _ => False) w w' ∧ (∀ (j : Nat) o l b, objs[j]? = some o → o.wr = true → ρ' j = some l → l.blk = some b → w.heap.size ≤ b) := by
    obtain ⟨v0, hv0, hr0⟩ := hrb.resultV ht hrs hres
    refine ⟨hrb.defers, v0, hv0, v0, fun j => if j < objs.length then ρ (gs.getD j 0) else none, J, rfl, hrb.i0, fun b c q => ?_, ?_, ⟨?_, ?_, hrb.mem.imm⟩, fun j l q => ?_, hrb.ext, ?_⟩
    · rcases hrb.i1 b c q with q | q | q
      · exact .inl q
      · exact q.elim
      · exact .inr q
    · have := Rep.unren r hr0
      exact this.locs (p := fun k => decide (k < objs.length)) (fun k hk => by simp only [decide_eq_true_eq] at hk; simp [hk]) hrall
    · intro j o ho
      have hj := (List.getElem?_eq_some_iff.1 ho).1
      obtain ⟨l, hl, hlaid⟩ := hrb.mem.laid _ _ (hobjs j o ho)
      exact ⟨l, by simp only [hj, if_true]; exact hl, laid_unren hlaid (hoall o (List.mem_of_getElem? ho))⟩
    · intro i1 o1 l1 i2 o2 l2 b h1 m1 e1 b1 h2 m2 e2 b2
      have hj1 := (List.getElem?_eq_some_iff.1 h1).1
      have hj2 := (List.getElem?_eq_some_iff.1 h2).1
      simp only [hj1, if_true] at e1
      simp only [hj2, if_true] at e2
      have := hrb.mem.apart _ _ _ _ _ _ _ (hobjs i1 o1 h1) (by rw [AObj.ren_wr]; exact m1) e1 b1 (hobjs i2 o2 h2) (by rw [AObj.ren_wr]; exact m2) e2 b2
      have q1 : gs.getD i1 0 = gs[i1]'(by omega) := by simp [List.getD, List.getElem?_eq_getElem (show i1 < gs.length by omega)]
      have q2 : gs.getD i2 0 = gs[i2]'(by omega) := by simp [List.getD, List.getElem?_eq_getElem (show i2 < gs.length by omega)]
      rw [q1, q2] at this
      have hp := List.pairwise_iff_getElem.1 hnd
      rcases Nat.lt_trichotomy i1 i2 with g | g | g
      · exact absurd this (hp i1 i2 (by omega) (by omega) g)
      · exact g
      · exact absurd this.symm (hp i2 i1 (by omega) (by omega) g)
    · have q' : (if j < objs.length then ρ (gs.getD j 0) else none) = some l := q
      split at q'
      · assumption
      · cases q'
    · intro j o l b ho hw hl hb
      have hj := (List.getElem?_eq_some_iff.1 ho).1
      simp only [hj, if_true] at hl
      rcases hrb.fresh _ _ _ _ (hobjs j o ho) (by rw [AObj.ren_wr]; exact hw) hl hb with q | q
      · exact q.elim
      · exact q
  rcases he with rfl | rfl <;> exact key

/-- The contract of a function that is handed objects, from the walk of its body. -/
theorem contractM_of_awpV (ht : TTok P tt) {f : FuncId} {fn : Func} {c : Code} {n : Nat} {rs : List ResultVar} {ins : List AObj} {ds : List D} {r : D} {outs : List (Option AObj)} (hf : P.funcs[f]? = some fn) (hb : fn.body = some c) (hn : fn.ntmps = n) (hds : ds.length ≤ n)
    (hrs : fn.results = rs.toArray) (h : ∀ E, AWP P E c (fun e s => ∃ gs, EndsMV tt ins.length rs r outs gs e s) (startM n ins ds)) : ContractM P f ins ds r outs := by
  intro w I ρ vs hM hvs
  refine calls_of_wp hf hb ?_
  obtain ⟨v1, v2⟩ := RepL.get hvs
  let E : Ent := ⟨w, InsBlk ins ρ, I, ρ⟩
  have hstart : ∀ id o, (startM n ins ds).heap id = some o → ∃ o0, ins[id]? = some o0 ∧ o = o0.pinned := by
    intro id o ho
    obtain ⟨o0, h1, h2⟩ := Option.map_eq_some_iff.1 (show (ins[id]?).map AObj.pinned = some o from ho)
    exact ⟨o0, h1, h2.symm⟩
  have hR : R E (startM n ins ds) { tmps := vs.toArray ++ Array.replicate (fn.ntmps - vs.toArray.size) undef, defers := [] } w := by
    refine ⟨ρ, I, ⟨by simp [startM]; omega, rfl, fun t d hd => ?_, ⟨fun id o ho => ?_, fun i1 o1 l1 i2 o2 l2 b h1 m1 e1 b1 h2 m2 e2 b2 => ?_, hM.imm⟩, fun _ _ q => q, fun _ _ q => .inl q, Ext.refl _ _, fun id o l b ho hw hl hb => ?_, fun id o ho hp => rfl⟩⟩
    · have hd' : ds[t]? = some d := hd
      have ht := (List.getElem?_eq_some_iff.1 hd').1
      refine ⟨by simp [startM]; omega, ?_⟩
      have hx : vs[t]? = some (vs[t]'(by omega)) := List.getElem?_eq_getElem (by omega)
      have e : (vs.toArray ++ Array.replicate (fn.ntmps - vs.toArray.size) undef).getD t undef = vs[t]'(by omega) := by
        rw [Array.getD_eq_getD_getElem?, Array.getElem?_append_left (by simp; omega)]
        simp [hx]
      rw [e]
      exact v2 t d _ hd' hx
    · obtain ⟨o0, h1, rfl⟩ := hstart id o ho
      obtain ⟨l, el, hl⟩ := hM.laid id o0 h1
      exact ⟨l, el, hl.pinAny true⟩
    · obtain ⟨q1, g1, rfl⟩ := hstart i1 o1 h1
      obtain ⟨q2, g2, rfl⟩ := hstart i2 o2 h2
      exact hM.apart _ _ _ _ _ _ _ g1 m1 e1 b1 g2 m2 e2 b2
    · obtain ⟨o0, h1, rfl⟩ := hstart id o ho
      exact .inl ⟨id, o0, l, h1, hw, hl, hb⟩
  refine wp_mono (h E _ _ hR) fun e a' w' ⟨st', ⟨gs, hend⟩, ρ2, J, hrb⟩ => ?_
  obtain ⟨he, hrall, hoall, hnd, hres, hat⟩ := hend
  have hget : ∀ j o, outAt outs j = some o → ∃ o', st'.heap (gs.getD j 0) = some o' ∧ o'.bare = (o.ren fun j => gs.getD j 0).bare ∧ (j < ins.length → gs.getD j 0 = j ∧ pinAt st'.heap j = true) ∧ o'.wr = o.wr := by
    intro j o ho
    obtain ⟨o', h1, h2, h3⟩ := outsAt_get hat ho
    rw [Nat.zero_add] at h1 h3
    refine ⟨o', h1, h2, h3, ?_⟩
    have := congrArg AObj.wr h2
    rw [show (o.ren fun j => gs.getD j 0).bare.wr = (o.ren fun j => gs.getD j 0).wr from rfl, AObj.ren_wr] at this
    exact this
  have key : a'.defers = [] ∧ ∃ v, (results fn a'.tmps).run P w' = .ok v w' ∧ ∃ v' ρ' I', Ending.returned v = .returned v' ∧ (∀ b c, I b = some c → I' b = some c) ∧ (∀ b c, I' b = some c → I b = some c ∨ InsBlk ins ρ b ∨ w.heap.size ≤ b) ∧
      Rep I' ρ' r v' ∧ Mem I' ρ' (outAt outs) w' ∧ (∀ j l, ρ' j = some l → (outAt outs j).isSome = true) ∧ Ext (InsBlk ins ρ) w w' ∧ (∀ (j : Nat) o l b, outAt outs j = some o → o.wr = true → ρ' j = some l → l.blk = some b → InsBlk ins ρ b ∨ w.heap.size ≤ b) ∧
      (∀ j, j < ins.length → (outAt outs j).isSome = true → ρ' j = ρ j) := by
    obtain ⟨v0, hv0, hr0⟩ := hrb.resultV ht hrs hres
    refine ⟨hrb.defers, v0, hv0, v0, fun j => if liveB outs j = true then ρ2 (gs.getD j 0) else none, J, rfl, hrb.i0, hrb.i1, ?_, ⟨?_, ?_, hrb.mem.imm⟩, fun j l q => ?_, hrb.ext, ?_, ?_⟩
    · have := Rep.unren r hr0
      exact this.locs (p := fun k => liveB outs k) (fun k hk => by simp only [hk, if_true]) hrall
    · intro j o ho
      obtain ⟨o', h1, h2, h3, h4⟩ := hget j o ho
      obtain ⟨l, hl, hlaid⟩ := hrb.mem.laid _ _ h1
      have hlv : liveB outs j = true := by rw [liveB_outAt, ho]; rfl
      exact ⟨l, by simp only [hlv, if_true]; exact hl, laid_unren_p (hlaid.ofBare h2) (outsOk_get hoall ho)⟩
    · intro i1 o1 l1 i2 o2 l2 b h1 m1 e1 b1 h2 m2 e2 b2
      obtain ⟨o1', p1, p2, p3, p4⟩ := hget i1 o1 h1
      obtain ⟨o2', r1, r2, r3, r4⟩ := hget i2 o2 h2
      have hl1 : liveB outs i1 = true := by rw [liveB_outAt, h1]; rfl
      have hl2 : liveB outs i2 = true := by rw [liveB_outAt, h2]; rfl
      simp only [hl1, if_true] at e1
      simp only [hl2, if_true] at e2
      have := hrb.mem.apart _ _ _ _ _ _ _ p1 (p4.trans m1) e1 b1 r1 (r4.trans m2) e2 b2
      exact liveIds_inj (gs := gs) (os := outs) (j := 0) hnd (by simp [h1]) (by simp [h2]) (by simpa using this)
    · have q' : (if liveB outs j = true then ρ2 (gs.getD j 0) else none) = some l := q
      split at q'
      · rename_i hlv; rwa [liveB_outAt] at hlv
      · cases q'
    · intro j o l b ho hw hl hb
      obtain ⟨o', h1, h2, h3, h4⟩ := hget j o ho
      have hl1 : liveB outs j = true := by rw [liveB_outAt, ho]; rfl
      simp only [hl1, if_true] at hl
      exact hrb.fresh _ _ _ _ h1 (h4.trans hw) hl hb
    · intro j hj hlive
      obtain ⟨o, ho⟩ := Option.isSome_iff_exists.1 hlive
      obtain ⟨o', h1, h2, h3, h4⟩ := hget j o ho
      obtain ⟨e1, hp⟩ := h3 hj
      rw [e1] at h1
      have hpin : o'.pin = true := by simpa [pinAt, h1] using hp
      have hlv : liveB outs j = true := by rw [liveB_outAt, ho]; rfl
      simp only [hlv, if_true, e1]
      exact hrb.pins j o' h1 hpin
  rcases he with rfl | rfl <;> exact key

/-- Where objects handed over stand. -/
def ObjsAt (st : St) (gs : List Nat) : List AObj → Nat → Prop
  | [], _ => True
  | o :: os, j => st.heap (gs.getD j 0) = some (o.ren fun j => gs.getD j 0) ∧ ObjsAt st gs os (j + 1)
theorem objsAt_get {gs : List Nat} : ∀ {os : List AObj} {j : Nat}, ObjsAt st gs os j → ∀ {i : Nat} {o : AObj}, os[i]? = some o → st.heap (gs.getD (j + i) 0) = some (o.ren fun j => gs.getD j 0)
  | [], _, _, i, o, h => by simp at h
  | o1 :: os, j, hk, 0, o, h => by simp at h; subst h; exact hk.1
  | o1 :: os, j, hk, i + 1, o, h => by
    have := objsAt_get (os := os) (j := j + 1) hk.2 (i := i) (o := o) (by simpa using h)
    rwa [show j + 1 + i = j + (i + 1) by omega] at this

theorem endsV (gs : List Nat) {rs : List ResultVar} {r : D} {objs : List AObj} {e : Exit} {p : Prop} (he : e = .normal ∨ e = .ret) (hres : st.resultV tt rs = some (p, r.ren fun j => gs.getD j 0)) (hat : ObjsAt st gs objs 0) (hp : p := by first | with_reducible trivial | omega)
    (hlen : gs.length = objs.length := by rfl) (hr : (r.all fun k => decide (k < objs.length)) = true := by rfl) (ho : objs.all (fun o => o.flat || o.rows.all (D.allL fun k => decide (k < objs.length))) = true := by rfl) (hnd : gs.Nodup := by decide) : ∃ gs, EndsV tt rs r objs gs e st :=
  ⟨gs, he, hlen, hnd, hr, fun o hoo => by have := List.all_eq_true.1 ho o hoo; simpa using this, ⟨p, hres, hp⟩, fun j o hj => by have := objsAt_get hat hj; rwa [Nat.zero_add] at this⟩
theorem endsMV (gs : List Nat) {k : Nat} {rs : List ResultVar} {r : D} {outs : List (Option AObj)} {e : Exit} {p : Prop} (he : e = .normal ∨ e = .ret) (hres : st.resultV tt rs = some (p, r.ren fun j => gs.getD j 0)) (hat : OutsAt st k gs outs 0) (hp : p := by first | with_reducible trivial | omega)
    (hr : (r.all fun k => liveB outs k) = true := by rfl) (ho : outsOk outs outs = true := by rfl) (hnd : (liveIds gs outs 0).Nodup := by simp [liveIds]) : ∃ gs, EndsMV tt k rs r outs gs e st := ⟨gs, he, hr, ho, hnd, ⟨p, hres, hp⟩, hat⟩

/-- An object that may lie elsewhere at the end. -/
def St.unpin (st : St) (id : Nat) : St := { st with heap := fun k => if k = id then (st.heap k).map AObj.bare else st.heap k }

theorem unpin_some {id k : Nat} {o : AObj} (h : (st.unpin id).heap k = some o) : ∃ o0, st.heap k = some o0 ∧ o.bare = o0.bare ∧ o.wr = o0.wr ∧ (o.pin = true → o0.pin = true) := by
  simp only [St.unpin] at h
  split at h
  · obtain ⟨o0, h1, rfl⟩ := Option.map_eq_some_iff.1 h
    exact ⟨o0, h1, rfl, rfl, fun q => by cases q⟩
  · exact ⟨o, h, rfl, rfl, fun q => q⟩

theorem awp_unpin {c : Code} {Q : Exit → St → Prop} (id : Nat) (h : AWP P E c Q (st.unpin id)) : AWP P E c Q st := by
  refine fun a w hR => h a w ?_
  obtain ⟨ρ, I, hrb⟩ := hR
  refine ⟨ρ, I, ⟨hrb.size, hrb.defers, hrb.slots, ⟨fun k o ho => ?_, fun i1 o1 l1 i2 o2 l2 b h1 m1 e1 b1 h2 m2 e2 b2 => ?_, hrb.mem.imm⟩, hrb.i0, hrb.i1, hrb.ext, fun k o l b ho hw hl hb => ?_, fun k o ho hp => ?_⟩⟩
  · obtain ⟨o0, q1, q2, _⟩ := unpin_some ho
    obtain ⟨l, el, hl⟩ := hrb.mem.laid k o0 q1
    exact ⟨l, el, hl.ofBare q2.symm⟩
  · obtain ⟨p1, q1, _, q3, _⟩ := unpin_some h1
    obtain ⟨p2, r1, _, r3, _⟩ := unpin_some h2
    exact hrb.mem.apart _ _ _ _ _ _ _ q1 (q3.symm.trans m1) e1 b1 r1 (r3.symm.trans m2) e2 b2
  · obtain ⟨o0, q1, _, q3, _⟩ := unpin_some ho
    exact hrb.fresh _ _ _ _ q1 (q3.symm.trans hw) hl hb
  · obtain ⟨o0, q1, _, _, q4⟩ := unpin_some ho
    exact hrb.pins _ _ q1 (q4 hp)

/-- Two names of objects change places (what they were called ahead of a loop's next round). -/
def swapN (x y k : Nat) : Nat := if k = x then y else if k = y then x else k
theorem swapN_swapN (x y k : Nat) : swapN x y (swapN x y k) = k := by
  unfold swapN
  by_cases h1 : k = x
  · subst h1
    by_cases h2 : y = k
    · simp [h2]
    · simp [h2]
  · by_cases h2 : k = y
    · subst h2; simp [h1]
    · simp [h1, h2]
def St.swap (st : St) (x y : Nat) : St := { st with slots := fun t => (st.slots t).map (D.ren (swapN x y)), heap := fun k => (st.heap (swapN x y k)).map fun o => (o.ren (swapN x y)).bare }

theorem R.swap {a : Act} {w : World} (x y : Nat) (h : R E st a w) : R E (st.swap x y) a w := by
  obtain ⟨ρ, I, hrb⟩ := h
  let ρ' : Locs := fun k => ρ (swapN x y k)
  have hσ : ∀ j l, ρ j = some l → ρ' (swapN x y j) = some l := fun j l hl => by simp only [ρ', swapN_swapN]; exact hl
  have hget : ∀ k o, (st.swap x y).heap k = some o → ∃ o0, st.heap (swapN x y k) = some o0 ∧ o = (o0.ren (swapN x y)).bare ∧ o.wr = o0.wr := fun k o ho => by
    obtain ⟨o0, q1, rfl⟩ := Option.map_eq_some_iff.1 (show (st.heap (swapN x y k)).map (fun o => (o.ren (swapN x y)).bare) = some o from ho)
    exact ⟨o0, q1, rfl, AObj.ren_wr⟩
  refine ⟨ρ', I, ⟨hrb.size, hrb.defers, fun t d hd => ?_, ⟨fun k o ho => ?_, fun i1 o1 l1 i2 o2 l2 b h1 m1 e1 b1 h2 m2 e2 b2 => ?_, hrb.mem.imm⟩, hrb.i0, hrb.i1, hrb.ext, fun k o l b ho hw hl hb => ?_, fun k o ho hp => ?_⟩⟩
  · obtain ⟨d0, q1, rfl⟩ := Option.map_eq_some_iff.1 (show (st.slots t).map (D.ren (swapN x y)) = some d from hd)
    obtain ⟨r1, r2⟩ := hrb.slots t d0 q1
    exact ⟨r1, Rep.ren (ρ' := ρ') (σ := swapN x y) hσ r2⟩
  · obtain ⟨o0, q1, rfl, _⟩ := hget k o ho
    obtain ⟨l, el, hl⟩ := hrb.mem.laid _ o0 q1
    exact ⟨l, el, (LaidObj.renTo (ρ' := ρ') (σ := swapN x y) hσ hl).pinAny false⟩
  · obtain ⟨p1, q1, _, q3⟩ := hget i1 o1 h1
    obtain ⟨p2, r1, _, r3⟩ := hget i2 o2 h2
    have := hrb.mem.apart _ _ _ _ _ _ _ q1 (q3.symm.trans m1) e1 b1 r1 (r3.symm.trans m2) e2 b2
    have h3 := congrArg (swapN x y) this
    rwa [swapN_swapN, swapN_swapN] at h3
  · obtain ⟨o0, q1, _, q3⟩ := hget k o ho
    exact hrb.fresh _ _ _ _ q1 (q3.symm.trans hw) hl hb
  · obtain ⟨o0, q1, rfl, _⟩ := hget k o ho
    cases hp

theorem awp_swap {c : Code} {Q : Exit → St → Prop} (x y : Nat) (h : AWP P E c Q (st.swap x y)) : AWP P E c Q st := fun a w hR => h a w (hR.swap x y)

end
end Go.Ab
