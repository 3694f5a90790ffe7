import Derived.Test.YtglcnghfmdcdpaaAbC
import Derived.Deep.Slices
import Derived.ChangeSame
import Derived.Carry
import Derived.Handed
import Derived.JoinedOf
import Derived.ProofKit
import Derived.OpenShut
import Derived.JoinedCond
namespace Go.Ab
set_option linter.unusedSimpArgs false
set_option linter.unusedVariables false
def resV (rs : List Tmp) (tmps : Array Value) : Value := match rs with
  | [t] => tmps.getD t undef
  | ts => .tuple (ts.map fun t => tmps.getD t undef).toArray
section
variable {P : Program} {E : Ent} {st : St} {a : Act} {w w' : World} {ρ : Locs} {I J : Imm} {tt : TypeId → Option TI}
theorem results_list (tmps : Array Value) (g : ResultVar → Sem Value) (hg : ∀ t, g (.tmp t) = pure (tmps.getD t undef)) : ∀ rs : List Tmp, ((rs.map ResultVar.tmp).mapM g).run P w = .ok (rs.map fun t => tmps.getD t undef) w
  | [] => rfl
  | t :: rs => by
    simp only [List.map_cons, List.mapM_cons, hg, Sem.run_bind, Sem.run_pure, Result.andThen_ok, results_list tmps g hg rs]
theorem run_results {fn : Func} {rs : List Tmp} (hr : fn.results = (rs.map ResultVar.tmp).toArray) (tmps : Array Value) : (results fn tmps).run P w = .ok (resV rs tmps) w := by
  unfold results
  rw [hr]
  have := fun g hg => mapM_array_list (P := P) (w := w) g (rs.map ResultVar.tmp).toArray _ (results_list tmps g hg rs)
  rw [Sem.run_bind, this _ (fun t => rfl)]
  simp only [Result.andThen_ok, Sem.run_pure]
  congr 1
  match rs with
  | [] => simp [resV]
  | [t] => simp [resV]
  | t :: u :: rs => simp [resV]
theorem RB.result (h : RB E st a w ρ I) {rs : List Tmp} {d : D} (hd : st.result rs = some d) : Rep I ρ d (resV rs a.tmps) := by
  match rs, hd with
  | [t], hd => exact (h.slots t d hd).2
  | [], hd =>
    simp only [St.result, St.evL, List.map_nil, Option.some.injEq] at hd
    subst hd
    exact .tup _ _ _ rfl (by simp)
  | t :: u :: rs, hd =>
    simp only [St.result] at hd
    split at hd
    · rename_i ds hds
      simp only [Option.some.injEq] at hd
      subst hd
      obtain ⟨q1, q2⟩ := RepL.get (h.evL hds)
      have e : (((t :: u :: rs).map Operand.tmp).map a.eval) = (t :: u :: rs).map fun t => a.tmps.getD t undef := by simp [Act.eval]
      rw [e] at q1 q2
      exact .tup _ _ _ (by simpa using q1) fun i d x h1 h2 => q2 i d x h1 (by simpa [resV] using h2)
    · cases hd
theorem contract_of_awp {f : FuncId} {fn : Func} {c : Code} {n : Nat} {rs : List Tmp} {ds : List D} {r : D} {objs : List AObj} (hf : P.funcs[f]? = some fn) (hb : fn.body = some c) (hn : fn.ntmps = n) (hds : ds.length ≤ n)
    (hrs : fn.results = (rs.map ResultVar.tmp).toArray) (h : ∀ E, AWP P E c (fun e s => ∃ gs, Ends rs r objs gs e s) (startSt n ds)) : Contract P f ds r objs := by
  intro w I vs hI hvs
  refine calls_of_wp hf hb ?_
  obtain ⟨v1, v2⟩ := RepL.get hvs
  let E : Ent := ⟨w, fun _ => False, I, noLocs, []⟩
  have hR : R E (startSt n ds) { tmps := vs.toArray ++ Array.replicate (fn.ntmps - vs.toArray.size) undef, defers := [] } w := by
    refine ⟨noLocs, I, ⟨by simp [startSt]; omega, rfl, fun t d hd => ?_, ⟨fun id o ho => by simp [startSt] at ho, fun i1 o1 l1 i2 o2 l2 b h1 => by simp [startSt] at h1, hI⟩, fun _ _ q => q, fun _ _ q => .inl q, Ext.refl _ _, fun id o l b ho => by simp [startSt] at ho, fun id o ho => by simp [startSt] at ho, fun m hm => by simp [startSt] at hm⟩⟩
    have hd' : ds[t]? = some d := hd
    have ht := (List.getElem?_eq_some_iff.1 hd').1
    refine ⟨by simp [startSt]; omega, ?_⟩
    have hx : vs[t]? = some (vs[t]'(by omega)) := List.getElem?_eq_getElem (by omega)
    have e : (vs.toArray ++ Array.replicate (fn.ntmps - vs.toArray.size) undef).getD t undef = vs[t]'(by omega) := by
      rw [Array.getD_eq_getD_getElem?, Array.getElem?_append_left (by simp; omega)]
      simp [hx]
    rw [e]
    exact v2 t d _ hd' hx
  refine wp_mono (h E _ _ hR) fun e a' w' ⟨st', ⟨gs, hend⟩, ρ, J, hrb⟩ => ?_
  obtain ⟨he, hlen, hnd, hrall, hoall, hres, hobjs⟩ := hend
  have key : a'.defers = [] ∧ ∃ v, (results fn a'.tmps).run P w' = .ok v w' ∧ ∃ v' ρ' I', Ending.returned v = .returned v' ∧ (∀ b c, I b = some c → I' b = some c) ∧ (∀ b c, I' b = some c → I b = some c ∨ w.heap.size ≤ b) ∧
      Rep I' ρ' r v' ∧ Mem I' ρ' (fun j => objs[j]?) w' ∧ (∀ j l, ρ' j = some l → j < objs.length) ∧ Ext (fun _ => False) w w' ∧ (∀ (j : Nat) o l b, objs[j]? = some o → o.wr = true → ρ' j = some l → l.blk = some b → w.heap.size ≤ b) := by
    refine ⟨hrb.defers, _, run_results hrs a'.tmps, _, fun j => if j < objs.length then ρ (gs.getD j 0) else none, J, rfl, hrb.i0, fun b c q => ?_, ?_, ⟨?_, ?_, hrb.mem.imm⟩, fun j l q => ?_, hrb.ext, ?_⟩
    · rcases hrb.i1 b c q with q | q | q
      · exact .inl q
      · exact q.elim
      · exact .inr q
    · have := Rep.unren r (hrb.result hres)
      exact this.locs (p := fun k => decide (k < objs.length)) (fun k hk => by simp only [decide_eq_true_eq] at hk; simp [hk]) hrall
    · intro j o ho
      have hj := (List.getElem?_eq_some_iff.1 ho).1
      obtain ⟨l, hl, hlaid⟩ := hrb.mem.laid _ _ (hobjs j o ho)
      exact ⟨l, by simp only [hj, if_true]; exact hl, laid_unren hlaid (hoall o (List.mem_of_getElem? ho))⟩
    · intro i1 o1 l1 i2 o2 l2 b h1 m1 e1 b1 h2 m2 e2 b2
      have hj1 := (List.getElem?_eq_some_iff.1 h1).1
      have hj2 := (List.getElem?_eq_some_iff.1 h2).1
      simp only [hj1, if_true] at e1
      simp only [hj2, if_true] at e2
      have := hrb.mem.apart _ _ _ _ _ _ _ (hobjs i1 o1 h1) (by rw [AObj.ren_wr]; exact m1) e1 b1 (hobjs i2 o2 h2) (by rw [AObj.ren_wr]; exact m2) e2 b2
      have q1 : gs.getD i1 0 = gs[i1]'(by omega) := by simp [List.getD, List.getElem?_eq_getElem (show i1 < gs.length by omega)]
      have q2 : gs.getD i2 0 = gs[i2]'(by omega) := by simp [List.getD, List.getElem?_eq_getElem (show i2 < gs.length by omega)]
      rw [q1, q2] at this
      have hp := List.pairwise_iff_getElem.1 hnd
      rcases Nat.lt_trichotomy i1 i2 with g | g | g
      · exact absurd this (hp i1 i2 (by omega) (by omega) g)
      · exact g
      · exact absurd this.symm (hp i2 i1 (by omega) (by omega) g)
    · have q' : (if j < objs.length then ρ (gs.getD j 0) else none) = some l := q
      split at q'
      · assumption
      · cases q'
    · intro j o l b ho hw hl hb
      have hj := (List.getElem?_eq_some_iff.1 ho).1
      simp only [hj, if_true] at hl
      rcases hrb.fresh _ _ _ _ (hobjs j o ho) (by rw [AObj.ren_wr]; exact hw) hl hb with q | q
      · exact q.elim
      · exact q
  rcases he with rfl | rfl <;> exact key
end
def ttOf (P : Program) (T : TypeId) : Option TI :=
  match P.info? T, P.underlying T with
  | some i, some u => match i.zero with
    | some z => if z.cells.size = i.size ∧ (z.cells.all (·.oneCell')) = true then some ⟨u, i.size, i.bytes, z, eqOkB P T u i.size⟩ else none
    | none => none
  | _, _ => none
theorem ttOf_ok (P : Program) : TTok P (ttOf P) := by
  intro T ti h
  unfold ttOf at h
  split at h
  · rename_i i u hi hu
    split at h
    · rename_i z hz
      split at h
      · rename_i hc
        simp only [Option.some.injEq] at h
        subst h
        exact ⟨i, hi, hu, rfl, rfl, hz, hc.1, hc.2, fun h => h⟩
      · cases h
    · cases h
  · cases h
def flOf (P : Program) (T : TypeId) : Array Field := match P.underlying T with
  | some (.struct fs) => fs
  | _ => #[]
end Go.Ab
namespace Go.Ab
set_option linter.unusedSimpArgs false
set_option linter.unusedVariables false
def lk {α : Type} : List (Nat × α) → Nat → Option α
  | [], _ => none
  | (k, d) :: l, t => if t = k then some d else lk l t
def mkS (n : Nat) (sl : List (Nat × D)) (hp : List (Nat × AObj)) : St := { n := n, slots := lk sl, heap := lk hp }
theorem mkS_slots (n : Nat) (sl : List (Nat × D)) (hp : List (Nat × AObj)) : (mkS n sl hp).slots = lk sl := rfl
theorem mkS_heap (n : Nat) (sl : List (Nat × D)) (hp : List (Nat × AObj)) : (mkS n sl hp).heap = lk hp := rfl
theorem mkS_n (n : Nat) (sl : List (Nat × D)) (hp : List (Nat × AObj)) : (mkS n sl hp).n = n := rfl
theorem lk_mem {α : Type} : ∀ {l : List (Nat × α)} {t : Nat} {d : α}, lk l t = some d → (t, d) ∈ l
  | [], t, d, h => by simp [lk] at h
  | (k, e) :: l, t, d, h => by
    simp only [lk] at h
    split at h
    · rename_i q; subst q; simp only [Option.some.injEq] at h; subst h; simp
    · exact List.mem_cons_of_mem _ (lk_mem h)
def Knows (st : St) : List (Nat × D) → Prop
  | [] => True
  | (t, d) :: l => st.slots t = some d ∧ Knows st l
def KnowsH (st : St) : List (Nat × AObj) → Prop
  | [] => True
  | (t, d) :: l => st.heap t = some d ∧ KnowsH st l
theorem Knows.get {st : St} : ∀ {l : List (Nat × D)}, Knows st l → ∀ t d, (t, d) ∈ l → st.slots t = some d
  | [], _, t, d, h => by simp at h
  | (k, e) :: l, hk, t, d, h => by
    rcases List.mem_cons.1 h with q | q
    · cases q; exact hk.1
    · exact Knows.get hk.2 t d q
theorem KnowsH.get {st : St} : ∀ {l : List (Nat × AObj)}, KnowsH st l → ∀ t d, (t, d) ∈ l → st.heap t = some d
  | [], _, t, d, h => by simp at h
  | (k, e) :: l, hk, t, d, h => by
    rcases List.mem_cons.1 h with q | q
    · cases q; exact hk.1
    · exact KnowsH.get hk.2 t d q
theorem mkS_le {n : Nat} {sl : List (Nat × D)} {hp : List (Nat × AObj)} {st : St} (hn : n = st.n) (hs : Knows st sl) (hh : KnowsH st hp) : (mkS n sl hp).le st :=
  ⟨hn, fun t d h => hs.get t d (lk_mem h), fun t d h => hh.get t d (lk_mem h), fun m h => by simp [mkS] at h⟩
def mkSM (n : Nat) (sl : List (Nat × D)) (hp : List (Nat × AObj)) (m : AMap) : St := { n := n, slots := lk sl, heap := lk hp, mp := some m }
theorem mkSM_slots (n : Nat) (sl : List (Nat × D)) (hp : List (Nat × AObj)) (m : AMap) : (mkSM n sl hp m).slots = lk sl := rfl
theorem mkSM_heap (n : Nat) (sl : List (Nat × D)) (hp : List (Nat × AObj)) (m : AMap) : (mkSM n sl hp m).heap = lk hp := rfl
theorem mkSM_n (n : Nat) (sl : List (Nat × D)) (hp : List (Nat × AObj)) (m : AMap) : (mkSM n sl hp m).n = n := rfl
theorem mkSM_mp (n : Nat) (sl : List (Nat × D)) (hp : List (Nat × AObj)) (m : AMap) : (mkSM n sl hp m).mp = some m := rfl
mutual
theorem D.ren_none {σ : Nat → Nat} : ∀ {d : D}, (d.all fun _ => false) = true → d.ren σ = d
  | .v _, _ => rfl
  | .agg cs, h => by simp only [D.ren, D.all] at *; rw [D.renL_none h]
  | .tup cs, h => by simp only [D.ren, D.all] at *; rw [D.renL_none h]
  | .sl _ _, _ => rfl
  | .ref _ _, _ => rfl
  | .own _ _ _, h => by simp [D.all] at h
  | .ptr _ _ _, h => by simp [D.all] at h
  | .fn _ _ cs, h => by simp only [D.ren, D.all] at *; rw [D.renL_none h]
  | .junk, _ => rfl
theorem D.renL_none {σ : Nat → Nat} : ∀ {cs : List D}, D.allL (fun _ => false) cs = true → D.renL σ cs = cs
  | [], _ => rfl
  | c :: cs, h => by
    simp only [D.allL, Bool.and_eq_true] at h
    simp only [D.renL, D.ren_none h.1, D.renL_none h.2]
end
section
variable {P : Program} {E : Ent} {st : St} {tt : TypeId → Option TI} {Q : Exit → St → Prop}
theorem arr0_isEmpty {α : Type _} : (#[] : Array α).isEmpty = true := rfl
theorem arr1_isEmpty {α : Type _} (a : α) (l : List α) : (List.toArray (a :: l)).isEmpty = false := rfl
theorem awp_reg (ht : TTok P tt) {rid : Nat} {ops : Array Oper} (h : aops P tt ops (fun st' => Q .normal st') (rid * 1000 + 1000) ops.toList st) : AWP P E (.region rid ops false) Q st :=
  awp_region ht _ h
theorem awp_at {c : Code} (n : Nat) (sl : List (Nat × D)) (hp : List (Nat × AObj)) (hn : n = st.n) (hs : Knows st sl) (hh : KnowsH st hp) (h : AWP P E c Q (mkS n sl hp)) : AWP P E c Q st :=
  awp_le h (mkS_le hn hs hh)
theorem callVC_scal {f : FuncId} {args ds : List D} {ids : List Nat} {p : Prop} {nid : Nat} {K : St → D → Prop} {r : D} (hf : FnOk P f) (hc : Contract P f ds r []) (hs : r.scal = true) (hk : K st r) (hp : p := by first | with_reducible trivial | omega) : CallVC P f args (some (ids, p, ds)) st nid K :=
  ⟨hf, .inl ⟨_, _, _, rfl, hp, .inr (.inl ⟨r, hc, hs, hk⟩)⟩⟩
theorem callVC_mk {f : FuncId} {args ds : List D} {ids : List Nat} {p : Prop} {nid : Nat} {K : St → D → Prop} {r : D} {objs : List AObj} (hf : FnOk P f) (hc : Contract P f ds r objs) (hs : objsOk objs 0 = true) (hk : K ((st.freeze ids).adoptL nid objs 0) (r.ren (nid + ·))) (hp : p := by first | with_reducible trivial | omega) : CallVC P f args (some (ids, p, ds)) st nid K :=
  ⟨hf, .inl ⟨_, _, _, rfl, hp, .inl ⟨r, objs, hc, hs, hk⟩⟩⟩
def St.toOwn (st : St) (t id sz : Nat) : St := { (st.bind id { sz := sz, rows := [] }) with slots := upd (st.bind id { sz := sz, rows := [] }).slots t (.own id 0 0) }
theorem awp_own_nil {c : Code} (t id sz : Nat) (h : st.slots t = some (.sl true [])) (hsz : 0 < sz) (hc : AWP P E c Q (st.toOwn t id sz)) : AWP P E c Q st := by
  refine fun a w hR => hc a w ?_
  obtain ⟨ρ, I, hrb⟩ := hR
  have hl : LaidObj I ρ w { sz := sz, rows := [] } ⟨none, 0, 0, sz⟩ := ⟨rfl, hsz, by simp, by simp, .inl ⟨rfl, rfl⟩⟩
  have h' := hrb.adopt (id := id) hl (fun b hb => by cases hb) (fun b hb => by cases hb)
  obtain ⟨ht, hrep⟩ := hrb.slots t _ h
  refine ⟨_, I, ⟨h'.size, h'.defers, fun u d hd => ?_, h'.mem, h'.i0, h'.i1, h'.ext, h'.fresh, h'.pins, h'.mp⟩⟩
  simp only [St.toOwn, upd] at hd
  split at hd
  · rename_i e; subst e
    simp only [Option.some.injEq] at hd
    subst hd
    refine ⟨ht, ?_⟩
    generalize a.tmps.getD u undef = v at hrep
    cases hrep with
    | nil _ _ ad cap hf =>
      have := hf rfl
      subst this
      have := Rep.own (I := I) (updL ρ id ⟨none, 0, 0, sz⟩) id 0 0 ⟨none, 0, 0, sz⟩ ad updL_eq (by simp) (.inl rfl)
      simpa using this
    | sl _ _ _ b o cap sz' c hI hs hc hcap hf h1 hh =>
      have := hf rfl
      simp at this
      subst this
      have := Rep.own (I := I) (updL ρ id ⟨none, 0, 0, sz⟩) id 0 0 ⟨none, 0, 0, sz⟩ (some ⟨b, o, none⟩) updL_eq (by simp) (.inl rfl)
      simpa using this
  · exact h'.slots u d hd
theorem ends_plain {rs : List Tmp} {r : D} {e : Exit} (he : e = .normal ∨ e = .ret) (hr : (r.all fun _ => false) = true) (hres : st.result rs = some r) : ∃ gs, Ends rs r [] gs e st := by
  refine ⟨[], he, rfl, List.nodup_nil, D.all_mono (fun _ h => by cases h) hr, by simp, ?_, by simp⟩
  rw [hres, D.ren_none hr]
theorem ends_own {rs : List Tmp} {o : AObj} {g off n : Nat} {e : Exit} (he : e = .normal ∨ e = .ret) (hres : st.result rs = some (.own g off n)) (hh : st.heap g = some o) (hf : o.flat = true) : ∃ gs, Ends rs (.own 0 off n) [o] gs e st := by
  refine ⟨[g], he, rfl, by simp, by simp [D.all], by simp [hf], by simpa [D.ren] using hres, fun j o' ho => ?_⟩
  cases j with
  | zero =>
    simp at ho; subst ho
    have : o.ren (fun j => [g].getD j 0) = o := by simp [AObj.ren, hf]
    rw [this]; simpa using hh
  | succ j => simp at ho
end
end Go.Ab
namespace Go.Ab
set_option linter.unusedSimpArgs false
set_option linter.unusedVariables false
def opnds : Op → List Operand
  | .slice _ x l h m => x :: (l.toList ++ h.toList ++ m.toList)
  | .build _ ps => ps.toList.map (·.2)
  | .makeFunc _ first caps => first.toList ++ caps.toList
  | .call c => c.args.toList
  | .pick c a b => [c, a, b]
  | .move x | .assign x | .load _ x | .nilCheck x | .unOp _ _ x | .convert _ _ x | .fieldAddr _ x _ | .field _ x _ | .extract x _ => [x]
  | .binOp _ _ a v _ | .indexAddr _ a v | .index _ a v => [a, v]
  | _ => []
def tmpOf : Operand → List Tmp
  | .tmp t => [t]
  | _ => []
def readsOf (ops : Array Oper) (o : Oper) : List Tmp :=
  (opnds o.op).flatMap tmpOf ++ (match o.guard with | some (j, _) => (((ops[j]?).bind (·.dst))).toList | none => [])
def clash (ops : Array Oper) (x y : Oper) : Bool :=
  match x.dst, y.dst with
  | some d, some e => d == e || (readsOf ops y).contains d || (readsOf ops x).contains e
  | some d, none => (readsOf ops y).contains d
  | none, some e => (readsOf ops x).contains e
  | none, none => false
def lookOp : Op → Bool
  | .alloc _ => false
  | .box _ _ => false
  | .buildSlice _ _ _ => false
  | .makeSlice _ _ _ => false
  | .store _ _ _ => false
  | .call c => match c.callee with
    | .value _ => false
    | .builtin .append => false
    | .builtin .copy => false
    | _ => true
  | _ => true
def calmB (ops : Array Oper) : Bool :=
  !Region.departs ops && (ops.all fun o => lookOp o.op) &&
  (ops.toList.zipIdx.all fun (o, i) => o.after.all (fun e => !Region.binds .any e || decide (e.on < i)) &&
    (ops.toList.zipIdx.all fun (x, k) => !(decide (k < i)) || !clash ops x o || o.after.any fun e => Region.binds .any e && e.on == k))
def Look (tt : TypeId → Option TI) (ops : Array Oper) (o : Oper) (s s' : St) : Prop :=
  (s.want ops o = some false ∧ s.fits o.dst = true ∧ s' = s.put o.dst (.v (.tuple #[]))) ∨ (s.want ops o = some true ∧ ∃ p d, val tt s o.op = some (p, d) ∧ p ∧ s.fits o.dst = true ∧ s' = s.put o.dst d)
def aopsL (tt : TypeId → Option TI) (ops : Array Oper) (K : St → Prop) : List Oper → St → Prop
  | [], st => K st
  | o :: rest, st => match st.want ops o with
    | some false => st.fits o.dst = true ∧ aopsL tt ops K rest (st.put o.dst (.v (.tuple #[])))
    | some true => match val tt st o.op with
      | some (p, d) => p ∧ st.fits o.dst = true ∧ aopsL tt ops K rest (st.put o.dst d)
      | none => False
    | none => False
theorem aopsL_nil (tt : TypeId → Option TI) (ops : Array Oper) (K : St → Prop) (st : St) : aopsL tt ops K [] st = K st := rfl
def stepL (tt : TypeId → Option TI) (ops : Array Oper) (st : St) (o : Oper) : Option (Prop × St) := match st.want ops o with
  | some false => some (st.fits o.dst = true, st.put o.dst (.v (.tuple #[])))
  | some true => match val tt st o.op with
    | some (p, d) => some (p ∧ st.fits o.dst = true, st.put o.dst d)
    | none => none
  | none => none
def runL (F : St → Prop) : Option (Prop × St) → Prop
  | some (p, s) => p ∧ F s
  | none => False
theorem runL_some (F : St → Prop) (p : Prop) (s : St) : runL F (some (p, s)) = (p ∧ F s) := rfl
theorem aopsL_cons (tt : TypeId → Option TI) (ops : Array Oper) (K : St → Prop) (o : Oper) (rest : List Oper) (st : St) : aopsL tt ops K (o :: rest) st = runL (aopsL tt ops K rest) (stepL tt ops st o) := by
  simp only [aopsL, stepL]
  split
  · rfl
  · split
    · simp only [runL, and_assoc]
    · rfl
  · rfl
inductive Looks (tt : TypeId → Option TI) (ops : Array Oper) : List Nat → St → St → Prop where
  | nil (s : St) : Looks tt ops [] s s
  | cons (i : Nat) (l : List Nat) (o : Oper) (s s1 s2 : St) (ho : ops[i]? = some o) (h : Look tt ops o s s1) (hs : Looks tt ops l s1 s2) : Looks tt ops (i :: l) s s2
section
variable {P : Program} {E : Ent} {st : St} {a : Act} {w : World} {ρ : Locs} {I : Imm} {tt : TypeId → Option TI} {ops : Array Oper}
structure Agree (l : List Tmp) (s s' : St) : Prop where
  n : s'.n = s.n
  heap : s'.heap = s.heap
  slots : ∀ t ∈ l, s'.slots t = s.slots t
theorem ev_agree {s s' : St} {x : Operand} (h : Agree (tmpOf x) s s') : s'.ev x = s.ev x := by
  cases x with
  | tmp t => exact h.slots t (by simp [tmpOf])
  | _ => rfl
theorem Agree.sub {l l' : List Tmp} {s s' : St} (h : Agree l s s') (hl : ∀ t ∈ l', t ∈ l) : Agree l' s s' := ⟨h.n, h.heap, fun t ht => h.slots t (hl t ht)⟩
theorem evL_agree {s s' : St} : ∀ {xs : List Operand}, Agree (xs.flatMap tmpOf) s s' → s'.evL xs = s.evL xs
  | [], _ => rfl
  | x :: xs, h => by
    simp only [St.evL]
    rw [ev_agree (h.sub fun t ht => by simp [ht]), evL_agree (xs := xs) (h.sub fun t ht => by simp only [List.flatMap_cons, List.mem_append]; exact .inr ht)]
theorem evO_agree {s s' : St} {x : Option Operand} (h : Agree (x.toList.flatMap tmpOf) s s') : s'.evO x = s.evO x := by
  cases x with
  | none => rfl
  | some x => simp only [St.evO]; rw [ev_agree (h.sub fun t ht => by simpa using ht)]
theorem rowOf_agree {s s' : St} (h : s'.heap = s.heap) (d : D) : s'.rowOf d = s.rowOf d := by
  cases d <;> simp [St.rowOf, h]
theorem rowsOf_agree {s s' : St} (h : s'.heap = s.heap) (d : D) : s'.rowsOf d = s.rowsOf d := by
  cases d <;> simp [St.rowsOf, h]
theorem val_agree {s s' : St} {o : Op} (h : Agree ((opnds o).flatMap tmpOf) s s') : val tt s' o = val tt s o := by
  have e1 : ∀ x : Operand, x ∈ opnds o → s'.ev x = s.ev x := fun x hx => ev_agree (h.sub fun t ht => List.mem_flatMap.2 ⟨x, hx, ht⟩)
  have eL : ∀ xs : List Operand, (∀ x ∈ xs, x ∈ opnds o) → s'.evL xs = s.evL xs := fun xs hx => evL_agree (h.sub fun t ht => by
    obtain ⟨x, h1, h2⟩ := List.mem_flatMap.1 ht
    exact List.mem_flatMap.2 ⟨x, hx x h1, h2⟩)
  have eO : ∀ x : Option Operand, (∀ y ∈ x.toList, y ∈ opnds o) → s'.evO x = s.evO x := fun x hx => evO_agree (h.sub fun t ht => by
    obtain ⟨y, h1, h2⟩ := List.mem_flatMap.1 ht
    exact List.mem_flatMap.2 ⟨y, hx y h1, h2⟩)
  cases o with
  | move x => simp only [val, e1 x (by simp [opnds])]
  | assign x => simp only [val, e1 x (by simp [opnds])]
  | pick c x y => simp only [val, e1 c (by simp [opnds]), e1 x (by simp [opnds]), e1 y (by simp [opnds])]
  | load T x => simp only [val, e1 x (by simp [opnds]), valLoad, rowOf_agree h.heap]
  | nilCheck x => simp only [val, e1 x (by simp [opnds])]
  | binOp op T x y yt => simp only [val, e1 x (by simp [opnds]), e1 y (by simp [opnds])]
  | unOp op T x => simp only [val, e1 x (by simp [opnds])]
  | convert src dst x => simp only [val, e1 x (by simp [opnds]), valConvert, convBytes, rowsOf_agree h.heap]
  | slice T x lo hi mx => simp only [val, e1 x (by simp [opnds]), eO lo (fun y hy => by simp only [opnds, List.mem_cons, List.mem_append]; exact .inr (.inl (.inl hy))), eO hi (fun y hy => by simp only [opnds, List.mem_cons, List.mem_append]; exact .inr (.inl (.inr hy))), eO mx (fun y hy => by simp only [opnds, List.mem_cons, List.mem_append]; exact .inr (.inr hy)), valSlice, h.heap]
  | fieldAddr S x f => simp only [val, e1 x (by simp [opnds])]
  | field S x f => simp only [val, e1 x (by simp [opnds])]
  | indexAddr T x i => simp only [val, e1 x (by simp [opnds]), e1 i (by simp [opnds]), valIndexAddr, h.heap]
  | index T x i => simp only [val, e1 x (by simp [opnds]), e1 i (by simp [opnds])]
  | extract t k => simp only [val, e1 t (by simp [opnds])]
  | build T parts => simp only [val, eL (parts.toList.map (·.2)) (by simp [opnds])]
  | makeFunc f first caps => simp only [val, eL first.toList (by simp [opnds]; intro x hx; exact .inl hx), eL caps.toList (by simp [opnds]; intro x hx; exact .inr hx)]
  | call c =>
    obtain ⟨callee, args, tys⟩ := c
    simp only [val]
    have ea := eL args.toList (by simp [opnds])
    split
    · rename_i x T hargs htys
      rw [e1 x (by simp [opnds, hargs])]
    · rw [ea]
    · rw [ea]
    · rfl
  | _ => rfl
theorem want_agree {s s' : St} {o : Oper} (h : Agree (readsOf ops o) s s') : s'.want ops o = s.want ops o := by
  unfold St.want
  cases hg : o.guard with
  | none => rfl
  | some q =>
    obtain ⟨j, b⟩ := q
    simp only
    cases hd : (ops[j]?).bind (·.dst) with
    | none => rfl
    | some t =>
      have : s'.slots t = s.slots t := h.slots t (by simp [readsOf, hg, hd])
      simp only [this]
theorem agree_put {s : St} {l : List Tmp} {dst : Option Tmp} {d : D} (h : ∀ t, dst = some t → t ∉ l) : Agree l s (s.put dst d) := by
  cases dst with
  | none => exact ⟨rfl, rfl, fun _ _ => rfl⟩
  | some t => exact ⟨rfl, rfl, fun u hu => by
      have : u ≠ t := fun e => h t rfl (e ▸ hu)
      simp [St.put, upd, this]⟩
theorem Agree.symm {l : List Tmp} {s s' : St} (h : Agree l s s') : Agree l s' s := ⟨h.n.symm, h.heap.symm, fun t ht => (h.slots t ht).symm⟩
theorem fits_put {s : St} {dst dst' : Option Tmp} {d : D} : (s.put dst d).fits dst' = s.fits dst' := by
  cases dst <;> rfl
theorem put_comm {s : St} {a b : Option Tmp} {x y : D} (h : ∀ t, a = some t → b ≠ some t) : (s.put a x).put b y = (s.put b y).put a x := by
  cases a with
  | none => rfl
  | some t =>
    cases b with
    | none => rfl
    | some u =>
      have hne : t ≠ u := fun e => h t rfl (by rw [e])
      simp only [St.put]
      congr 1
      funext k
      simp only [upd]
      by_cases h1 : k = t <;> by_cases h2 : k = u <;> simp [h1, h2]
      · subst h1; exact absurd h2 hne
      · intro e; exact absurd e hne
      · intro e; exact absurd e.symm hne
theorem clash_false {x y : Oper} (h : clash ops x y = false) : (∀ t, x.dst = some t → t ∉ readsOf ops y) ∧ (∀ t, y.dst = some t → t ∉ readsOf ops x) ∧ ∀ t, x.dst = some t → y.dst ≠ some t := by
  unfold clash at h
  cases hx : x.dst <;> cases hy : y.dst <;> simp [hx, hy] at h ⊢
  · exact h
  · exact h
  · exact ⟨h.1.2, h.2, fun e => h.1.1 e.symm⟩
theorem look_out {o : Oper} {s s' : St} (h : Look tt ops o s s') : ∃ d, s' = s.put o.dst d := by
  rcases h with ⟨_, _, e⟩ | ⟨_, p, d, _, _, _, e⟩
  · exact ⟨_, e⟩
  · exact ⟨d, e⟩
theorem look_move {o : Oper} {s s' s1 : St} (h : Look tt ops o s s1) (ha : Agree (readsOf ops o) s s') (hf : s'.fits o.dst = s.fits o.dst) : ∃ d, s1 = s.put o.dst d ∧ Look tt ops o s' (s'.put o.dst d) := by
  have hr : Agree ((opnds o.op).flatMap tmpOf) s s' := ha.sub fun t ht => by simp only [readsOf, List.mem_append]; exact .inl ht
  rcases h with ⟨h1, h2, e⟩ | ⟨h1, p, d, h2, h3, h4, e⟩
  · exact ⟨_, e, .inl ⟨by rw [want_agree ha]; exact h1, by rw [hf]; exact h2, rfl⟩⟩
  · exact ⟨d, e, .inr ⟨by rw [want_agree ha]; exact h1, p, d, by rw [val_agree hr]; exact h2, h3, by rw [hf]; exact h4, rfl⟩⟩
theorem look_swap {x y : Oper} {s s1 s2 : St} (h1 : Look tt ops x s s1) (h2 : Look tt ops y s1 s2) (hc : clash ops x y = false) : ∃ s1', Look tt ops y s s1' ∧ Look tt ops x s1' s2 := by
  obtain ⟨c1, c2, c3⟩ := clash_false hc
  obtain ⟨dx, rfl⟩ := look_out h1
  obtain ⟨dy, rfl, hy⟩ := look_move h2 (agree_put (d := dx) c1).symm (by rw [fits_put])
  obtain ⟨dx', e, hx⟩ := look_move h1 (agree_put (d := dy) c2) (by rw [fits_put])
  refine ⟨_, hy, ?_⟩
  rw [put_comm c3]
  have : (s.put y.dst dy).put x.dst dx' = (s.put y.dst dy).put x.dst dx := by
    rw [← put_comm c3, ← put_comm c3, e]
  rw [← this]; exact hx
theorem looks_front {i : Nat} {o : Oper} (ho : ops[i]? = some o) : ∀ {pre post : List Nat} {s s' : St}, Looks tt ops (pre ++ i :: post) s s' → (∀ k ∈ pre, ∀ x, ops[k]? = some x → clash ops x o = false) → Looks tt ops (i :: (pre ++ post)) s s'
  | [], post, s, s', h, _ => h
  | k :: pre, post, s, s', h, hc => by
    cases h with
    | cons _ _ x _ s1 _ hx h1 h2 =>
      have := looks_front ho h2 (fun k' hk' => hc k' (by simp [hk']))
      cases this with
      | cons _ _ o' _ s2 _ ho' g1 g2 =>
        rw [ho] at ho'; cases ho'
        obtain ⟨s1', r1, r2⟩ := look_swap h1 g1 (hc k (by simp) x hx)
        exact .cons i _ o s s1' s' ho r1 (.cons k _ x s1' s2 s' hx r2 g2)
theorem aopsL_looks {K : St → Prop} : ∀ (l : List Oper) (k : Nat) (s : St), ops.toList.drop k = l → aopsL tt ops K l s → ∃ s', Looks tt ops ((List.range ops.size).drop k) s s' ∧ K s'
  | [], k, s, hl, h => by
    have : ops.size ≤ k := by have := congrArg List.length hl; simp at this; omega
    rw [List.drop_of_length_le (by simpa using this)]
    exact ⟨s, .nil s, h⟩
  | o :: rest, k, s, hl, h => by
    have hk : k < ops.size := by have := congrArg List.length hl; simp at this; omega
    have hok : ops[k]? = some o := by
      have := congrArg (·[0]?) hl
      simpa using this
    have hrest : ops.toList.drop (k + 1) = rest := by rw [← List.drop_drop, hl]; rfl
    have hrange : (List.range ops.size).drop k = k :: (List.range ops.size).drop (k + 1) := by
      rw [List.drop_eq_getElem_cons (by simpa using hk)]; simp
    rw [hrange]
    simp only [aopsL] at h
    split at h
    · rename_i hw
      obtain ⟨s', q1, q2⟩ := aopsL_looks rest (k + 1) _ hrest h.2
      exact ⟨s', .cons k _ o s _ s' hok (.inl ⟨hw, h.1, rfl⟩) q1, q2⟩
    · rename_i hw
      split at h
      · rename_i p d hv
        obtain ⟨s', q1, q2⟩ := aopsL_looks rest (k + 1) _ hrest h.2.2
        exact ⟨s', .cons k _ o s _ s' hok (.inr ⟨hw, p, d, hv, h.1, h.2.1, rfl⟩) q1, q2⟩
      · exact h.elim
    · exact h.elim
theorem wpOps_looks (ht : TTok P tt) {Q : Exit → Act → World → Prop} {K : St → Prop} (hK : ∀ st' a' w', K st' → R E st' a' w' → Q .normal a' w') {l : List Nat} {s s' : St} (h : Looks tt ops l s s') :
    ∀ (a : Act) (w : World), K s' → R E s a w → wpOps P ops Q l a w := by
  induction h with
  | nil s => exact fun a w hk hR => hK s a w hk hR
  | cons i l o s s1 s2 ho hl _ ih =>
    intro a w hk ⟨ρ, I, hrb⟩
    simp only [wpOps, ho]
    rcases hl with ⟨h1, h2, rfl⟩ | ⟨h1, p, d, h2, h3, h4, rfl⟩
    · rw [hrb.want h1]
      simp only [Bool.false_eq_true, if_false]
      exact ih _ _ hk ⟨ρ, I, hrb.put h2 (.v _ _)⟩
    · rw [hrb.want h1]
      simp only [if_true]
      left
      obtain ⟨z, z1, z2⟩ := hrb.val ht h2 h3
      unfold Oper.wp
      rw [z1]
      exact ih _ _ hk ⟨ρ, I, hrb.put h4 z2⟩
theorem looks_drawn (hc : calmB ops = true) : ∀ (fuel t : Nat) (listed : Array Bool) (acc : List Nat) (s s' : St), listed.size = ops.size →
    ((List.range ops.size).filter fun i => !listed.getD i true).length = fuel → Looks tt ops ((List.range ops.size).filter fun i => !listed.getD i true) s s' →
    ∃ l, Region.linearise.go .any ops fuel t listed acc = acc.reverse ++ l ∧ Looks tt ops l s s' := by
  intro fuel
  induction fuel with
  | zero =>
    intro t listed acc s s' hsz hlen h
    have : ((List.range ops.size).filter fun i => !listed.getD i true) = [] := List.eq_nil_of_length_eq_zero hlen
    rw [this] at h
    exact ⟨[], by simp [Region.linearise.go], h⟩
  | succ fuel ih =>
    intro t listed acc s s' hsz hlen h
    have hcalm := hc
    simp only [calmB, Bool.and_eq_true, List.all_eq_true, Bool.or_eq_true] at hcalm
    obtain ⟨⟨_, _⟩, hcalm⟩ := hcalm
    have hmem : ∀ i o, ops[i]? = some o → (o, i) ∈ ops.toList.zipIdx := fun i o ho => by
      rw [List.mem_zipIdx_iff_getElem?]; simpa using ho
    generalize hR : ((List.range ops.size).filter fun i => !listed.getD i true) = Rl at h hlen
    have hRmem : ∀ i, i ∈ Rl ↔ i < ops.size ∧ listed.getD i true = false := fun i => by rw [← hR]; simp
    -- those that may come next
    generalize hrs : ((List.range ops.size).filter fun i => !listed.getD i true && ((ops[i]?).map (·.after.all fun e => !Region.binds .any e || listed.getD e.on false)).getD false) = rs
    have hrsne : rs ≠ [] := by
      -- the first that is left
      match Rl, hR, hlen with
      | k :: Rt, hR, hlen =>
        have hk : k ∈ (List.range ops.size).filter fun i => !listed.getD i true := by rw [hR]; simp
        have hk2 : k < ops.size ∧ listed.getD k true = false := by simpa using hk
        have hmin : ∀ j, j < k → listed.getD j false = true := by
          intro j hj
          cases hl : listed.getD j true with
          | true =>
            have hjl : j < listed.size := by omega
            simp only [Array.getD_eq_getD_getElem?, Array.getElem?_eq_getElem hjl, Option.getD_some] at hl ⊢
            exact hl
          | false =>
            exfalso
            have hj1 : j ∈ (List.range ops.size).filter fun i => !listed.getD i true := List.mem_filter.2 ⟨List.mem_range.2 (by have := hk2.1; omega), by rw [hl]; rfl⟩
            have hsorted : ((List.range ops.size).filter fun i => !listed.getD i true).Pairwise (· < ·) := List.Pairwise.filter _ List.pairwise_lt_range
            rw [hR] at hj1 hsorted
            rcases List.mem_cons.1 hj1 with e | e
            · omega
            · have := (List.pairwise_cons.1 hsorted).1 j e; omega
        obtain ⟨o, ho⟩ : ∃ o, ops[k]? = some o := ⟨_, Array.getElem?_eq_getElem hk2.1⟩
        have hin : k ∈ rs := by
          rw [← hrs]
          simp only [List.mem_filter, List.mem_range, Bool.and_eq_true, Bool.not_eq_true', hk2.2, ho, Option.map_some, Option.getD_some, true_and]
          refine ⟨hk2.1, ?_⟩
          have := (hcalm (o, k) (hmem k o ho)).1
          rw [Array.all_eq_true_iff_forall_mem] at this ⊢
          intro e he
          have := this e he
          simp only [Bool.or_eq_true, decide_eq_true_eq] at this ⊢
          rcases this with q | q
          · exact .inl q
          · exact .inr (hmin _ q)
        intro e; rw [e] at hin; simp at hin
    have hlt : t % rs.length < rs.length := Nat.mod_lt _ (List.length_pos_iff.2 hrsne)
    have hget : rs[t % rs.length]? = some (rs[t % rs.length]'hlt) := List.getElem?_eq_getElem hlt
    generalize hi : rs[t % rs.length]'hlt = i at hget
    have hi_in : i ∈ rs := by rw [← hi]; exact List.getElem_mem hlt
    rw [← hrs] at hi_in
    simp only [List.mem_filter, List.mem_range, Bool.and_eq_true, Bool.not_eq_true'] at hi_in
    obtain ⟨hi1, hi2, hi3⟩ := hi_in
    obtain ⟨o, ho⟩ : ∃ o, ops[i]? = some o := ⟨_, Array.getElem?_eq_getElem hi1⟩
    rw [ho] at hi3
    simp only [Option.map_some, Option.getD_some] at hi3
    have hiR : i ∈ Rl := (hRmem i).2 ⟨hi1, hi2⟩
    obtain ⟨pre, post, hsplit⟩ := List.append_of_mem hiR
    have hsorted : Rl.Pairwise (· < ·) := by rw [← hR]; exact List.Pairwise.filter _ List.pairwise_lt_range
    rw [hsplit] at h hsorted
    have hfront := looks_front ho h (fun k hk x hx => by
      have hki : k < i := by
        have := List.pairwise_append.1 hsorted
        exact this.2.2 k hk i (by simp)
      have hkR : k ∈ Rl := by rw [hsplit]; simp [hk]
      have hkl := ((hRmem k).1 hkR).2
      have := (hcalm (o, i) (hmem i o ho)).2 (x, k) (hmem k x hx)
      simp only [Bool.not_eq_true', decide_eq_false_iff_not] at this
      rcases this with (q | q) | q
      · exact absurd hki q
      · exact q
      · exfalso
        rw [Array.any_eq_true'] at q
        obtain ⟨e, he, q⟩ := q
        simp only [Bool.and_eq_true, beq_iff_eq] at q
        have := (Array.all_eq_true_iff_forall_mem.1 hi3) e he
        simp only [q.1, Bool.not_true, Bool.false_or, q.2] at this
        have hkb : k < listed.size := by have := ((hRmem k).1 hkR).1; omega
        simp only [Array.getD_eq_getD_getElem?, Array.getElem?_eq_getElem hkb, Option.getD_some] at this hkl
        rw [this] at hkl; cases hkl)
    cases hfront with
    | cons _ _ o' _ s1 _ ho' g1 g2 =>
      rw [ho] at ho'; cases ho'
      have hRl' : ((List.range ops.size).filter fun j => !(listed.setIfInBounds i true).getD j true) = pre ++ post := by
        have e1 : ((List.range ops.size).filter fun j => !(listed.setIfInBounds i true).getD j true) = Rl.filter (· != i) := by
          rw [← hR, List.filter_filter]
          apply List.filter_congr
          intro j hj
          simp only [Array.getD_eq_getD_getElem?, Array.getElem?_setIfInBounds]
          have hil : i < listed.size := by omega
          by_cases hji : j = i
          · subst hji; simp [hil]
          · have : ¬ i = j := fun e => hji e.symm
            simp [this, hji]
        rw [e1, hsplit, List.filter_append]
        have hnd := hsorted.imp (fun {a b} (h : a < b) => Nat.ne_of_lt h)
        have hp := List.pairwise_append.1 hnd
        have h1 : pre.filter (· != i) = pre := List.filter_eq_self.2 fun k hk => by simpa using hp.2.2 k hk i (by simp)
        have h2 : (i :: post).filter (· != i) = post := by
          rw [List.filter_cons]
          simp
          intro k hk
          have := (List.pairwise_cons.1 hp.2.1).1 k hk
          exact fun e => this e.symm
        rw [h1, h2]
      have hlen' : ((List.range ops.size).filter fun j => !(listed.setIfInBounds i true).getD j true).length = fuel := by
        rw [hRl']
        have := congrArg List.length hsplit
        simp at this ⊢; omega
      obtain ⟨l, r1, r2⟩ := ih (t / rs.length) (listed.setIfInBounds i true) (i :: acc) s1 s' (by simpa using hsz) hlen' (by rw [hRl']; exact g2)
      refine ⟨i :: l, ?_, .cons i l o s s1 s' ho g1 r2⟩
      simp only [Region.linearise.go, hrs, hget]
      rw [r1]; simp
theorem looks_schedule (hc : calmB ops = true) (mixed : Bool) (t : Nat) {s s' : St} (h : Looks tt ops (List.range ops.size) s s') : Looks tt ops (Region.schedule mixed ops t) s s' := by
  have hd : Region.departs ops = false := by
    simp only [calmB, Bool.and_eq_true, Bool.not_eq_true'] at hc
    exact hc.1.1
  have hall : ((List.range ops.size).filter fun i => !(Array.replicate ops.size false).getD i true) = List.range ops.size := by
    apply List.filter_eq_self.2
    intro i hi
    simp only [List.mem_range] at hi
    simp [Array.getD_eq_getD_getElem?, Array.getElem?_replicate, hi]
  obtain ⟨l, h1, h2⟩ := looks_drawn hc ops.size t (Array.replicate ops.size false) [] s s' (by simp) (by rw [hall]; simp) (by rw [hall]; exact h)
  unfold Region.schedule
  rw [hd]
  simp only [Bool.not_false, Bool.or_true, if_true, Region.linearise]
  rw [h1]
  simpa using h2
theorem awp_draw {Q : Exit → St → Prop} (ht : TTok P tt) {rid : Nat} (hc : calmB ops = true) (h : aopsL tt ops (fun st' => Q .normal st') ops.toList st) : AWP P E (.region rid ops true) Q st := by
  intro a w hR
  refine wp_region_draw fun t => ?_
  obtain ⟨s', h1, h2⟩ := aopsL_looks ops.toList 0 st (by simp) h
  have h1 : Looks tt ops (List.range ops.size) st s' := by simpa using h1
  refine wpOps_looks ht (Q := fun e a' w' => ∃ st', Q e st' ∧ R E st' a' w') (K := fun st' => Q .normal st') (fun st' a' w' q r => ⟨st', q, r⟩) (looks_schedule hc _ t h1) a _ h2 ?_
  obtain ⟨ρ, I, hrb⟩ := hR
  exact ⟨ρ, I, hrb.drew⟩
end
end Go.Ab
namespace Go.Ab
set_option linter.unusedSimpArgs false
set_option linter.unusedVariables false
open Go.Deep
def immOf (w : World) : Imm := fun b => match w.heap[b]? with
  | some (.cells c _ _) => some c
  | _ => none
theorem immOk_of (w : World) : ImmOk (immOf w) w := by
  intro b c h
  unfold immOf at h
  split at h
  · rename_i c' e fr hb
    cases h
    exact ⟨e, fr, hb⟩
  · cases h
theorem cell_imm {w : World} {a : Addr} {v : Value} (h : w.cell? a = some v) : ∃ c, immOf w a.block = some c ∧ a.spot = none ∧ c[a.off]? = some v := by
  unfold World.cell? at h
  split at h
  · rename_i c e fr hb
    split at h
    · cases h
    · rename_i hs
      refine ⟨c, by simp [immOf, hb], ?_, h⟩
      cases hq : a.spot with
      | none => rfl
      | some _ => simp [hq] at hs
  · cases h
def Opens (P : Program) (t : TypeId) {α : Type} (enc : α → List D) (ok : α → Prop) : Prop :=
  ∀ (H : Type) (encH : TypeId × Value → H) (w : World) (fuel : Nat) (cs : List Value) (x : DataW H × List MemPlace), DataW.trod encH P w 0 (fun _ => true) true fuel t cs = some x →
    ∃ a : α, ok a ∧ cs.length = (enc a).length ∧ ∀ (i : Nat) (d : D) (v : Value), (enc a)[i]? = some d → cs[i]? = some v → Rep (immOf w) noLocs d v ∧ v.oneCell' = true
theorem one_row {I : Imm} {d : D} {v : Value} (h : Rep I noLocs d v) (h1 : v.oneCell' = true) : ∀ (i : Nat) (d' : D) (v' : Value), [d][i]? = some d' → [v][i]? = some v' → Rep I noLocs d' v' ∧ v'.oneCell' = true := by
  intro i d' v' q1 q2
  cases i with
  | zero => simp at q1 q2; subst q1; subst q2; exact ⟨h, h1⟩
  | succ i => simp at q1
section
variable {P : Program}
theorem opens_int {t : TypeId} {k : IntKind} (h : P.underlying t = some (.int k)) : Opens P t (fun n : Int => [.v (.int k n)]) (fun n => (Lit.int k n).wf = true) := by
  intro H encH w fuel cs x hx
  obtain ⟨n, rfl, _, hw⟩ := DataW.trod_int h hx
  exact ⟨n, hw, rfl, one_row (.v _ _) rfl⟩
theorem opens_map {t : TypeId} {α β : Type} {enc : α → List D} {ok : α → Prop} (h : Opens P t enc ok) {enc' : β → List D} {ok' : β → Prop} (hm : ∀ a, ok a → ∃ b, ok' b ∧ enc a = enc' b) : Opens P t enc' ok' := by
  intro H encH w fuel cs x hx
  obtain ⟨a, h1, h2, h3⟩ := h H encH w fuel cs x hx
  obtain ⟨b, g1, g2⟩ := hm a h1
  exact ⟨b, g1, by rw [← g2]; exact h2, by rw [← g2]; exact h3⟩
theorem choose_list {α : Type} {p : Nat → α → Prop} : ∀ {n : Nat}, (∀ i, i < n → ∃ a, p i a) → ∃ l : List α, l.length = n ∧ ∀ (i : Nat) (a : α), l[i]? = some a → p i a
  | 0, _ => ⟨[], rfl, fun i a h => by simp at h⟩
  | n + 1, h => by
    obtain ⟨l, h1, h2⟩ := choose_list (n := n) fun i hi => h i (by omega)
    obtain ⟨a, ha⟩ := h n (by omega)
    refine ⟨l ++ [a], by simp [h1], fun i b hb => ?_⟩
    by_cases hi : i < l.length
    · rw [List.getElem?_append_left hi] at hb; exact h2 i b hb
    · rw [List.getElem?_append_right (by omega)] at hb
      have : i = n := by
        have := (List.getElem?_eq_some_iff.1 hb).1
        simp at this; omega
      subst this
      simp [h1] at hb
      subst hb; exact ha
theorem opens_slice {t e : TypeId} {α : Type} {enc : α → List D} {ok : α → Prop} (ht : P.underlying t = some (.slice e)) (he : Opens P e enc ok) (hlen : ∀ a, (enc a).length = P.cellsOf e) (hpos : 0 < P.cellsOf e) :
    Opens P t (fun l : List α => [.sl false (l.map enc)]) (fun l => l.length ≤ 9223372036854775807 ∧ ∀ a ∈ l, ok a) := by
  intro H encH w fuel cs x hx
  rcases open_slice ht hx with ⟨rfl, _⟩ | ⟨a, len, cap, m, n, Dd, Pl, rfl, _, hl, hm, hmm, _, hel⟩
  · exact ⟨[], ⟨by simp, by simp⟩, rfl, one_row (.nil _ _ _ _ (by simp)) rfl⟩
  · have hel' : ∀ i, i < len → ∃ q : α, ok q ∧ ∃ cs', w.cells? 0 (a.add (i * P.cellsOf e)) (P.cellsOf e) = some cs' ∧ cs'.length = (enc q).length ∧ ∀ (j : Nat) (d : D) (v : Value), (enc q)[j]? = some d → cs'[j]? = some v → Rep (immOf w) noLocs d v ∧ v.oneCell' = true := by
      intro i hi
      obtain ⟨cs', h1, h2⟩ := hel i (by simp at hmm; omega)
      obtain ⟨q, g1, g2, g3⟩ := he H encH w n cs' _ h2
      exact ⟨q, g1, cs', h1, g2, g3⟩
    obtain ⟨l, hll, hlp⟩ := choose_list hel'
    have hm' : len ≤ 9223372036854775807 := by unfold maxLen at hm; omega
    refine ⟨l, ⟨by omega, fun q hq => ?_⟩, rfl, ?_⟩
    · obtain ⟨i, hi⟩ := List.getElem?_of_mem hq
      exact (hlp i q hi).1
    by_cases h0 : len = 0
    · subst h0
      have : l = [] := by cases l with
        | nil => rfl
        | cons _ _ => simp at hll
      subst this
      exact one_row (.nil _ _ _ _ (by simp)) rfl
    · -- the block
      have hat : ∀ i q, l[i]? = some q → ∀ j, j < P.cellsOf e → ∃ v, w.cell? ((a.add (i * P.cellsOf e)).add j) = some v ∧ ∀ d, (enc q)[j]? = some d → Rep (immOf w) noLocs d v ∧ v.oneCell' = true := by
        intro i q hq j hj
        obtain ⟨_, cs', h1, h2, h3⟩ := hlp i q hq
        obtain ⟨hb0, hcl, hcc⟩ := World.cells?_some h1
        have hj' : j < cs'.length := by rw [hcl]; exact hj
        exact ⟨cs'[j], by rw [hcc j hj, List.getElem?_eq_getElem hj'], fun d hd => h3 j d _ hd (List.getElem?_eq_getElem hj')⟩
      have hq0 : l[0]? = some (l[0]'(by omega)) := List.getElem?_eq_getElem (by omega)
      obtain ⟨v0, hv0, _⟩ := hat 0 _ hq0 0 hpos
      rw [Nat.zero_mul, Addr.add_zero', Addr.add_zero'] at hv0
      obtain ⟨c, hI, hsp, _⟩ := cell_imm hv0
      obtain ⟨b, o, sp⟩ := a
      simp only at hI hsp
      subst hsp
      have hat' : ∀ i q, l[i]? = some q → ∀ j, j < P.cellsOf e → ∃ v, c[o + i * P.cellsOf e + j]? = some v ∧ ∀ d, (enc q)[j]? = some d → Rep (immOf w) noLocs d v ∧ v.oneCell' = true := by
        intro i q hq j hj
        obtain ⟨v, hv, h2⟩ := hat i q hq j hj
        rw [Addr.add_lit, Addr.add_lit] at hv
        obtain ⟨c', hI', _, hc'⟩ := cell_imm hv
        simp only at hI' hc'
        rw [hI] at hI'; cases hI'
        exact ⟨v, hc', h2⟩
      have hsize : o + l.length * P.cellsOf e ≤ c.size := by
        have hq : l[l.length - 1]? = some (l[l.length - 1]'(by omega)) := List.getElem?_eq_getElem (by omega)
        obtain ⟨v, hv, _⟩ := hat' _ _ hq (P.cellsOf e - 1) (by omega)
        have := (Array.getElem?_eq_some_iff.1 hv).1
        have e1 : l.length * P.cellsOf e = (l.length - 1) * P.cellsOf e + P.cellsOf e := by
          rw [← Nat.succ_mul]; congr 1; omega
        omega
      have hrows : (l.map enc).length = len := by simp [hll]
      have hrep := Rep.sl (I := immOf w) noLocs false (l.map enc) b o cap (P.cellsOf e) c hI (fun row hr => by
          simp only [List.mem_map] at hr
          obtain ⟨q, _, rfl⟩ := hr
          exact hlen q) (by simpa using hsize) (by omega) (by simp) (fun j v hj hv => by
          rw [List.length_map] at hj
          have hi : j / P.cellsOf e < l.length := by rw [Nat.div_lt_iff_lt_mul hpos]; exact hj
          have hq := List.getElem?_eq_getElem hi
          obtain ⟨v', hv', h2⟩ := hat' _ _ hq (j % P.cellsOf e) (Nat.mod_lt _ hpos)
          have e1 : o + j / P.cellsOf e * P.cellsOf e + j % P.cellsOf e = o + j := by
            have := Nat.div_add_mod' j (P.cellsOf e); omega
          rw [e1, hv] at hv'
          cases hv'
          have hjl : j % P.cellsOf e < (enc l[j / P.cellsOf e]).length := by rw [hlen]; exact Nat.mod_lt _ hpos
          exact (h2 _ (List.getElem?_eq_getElem hjl)).2) (fun i j row d v hr hd hv => by
          rw [List.getElem?_map] at hr
          cases hq : l[i]? with
          | none => simp [hq] at hr
          | some q =>
            simp only [hq, Option.map_some, Option.some.injEq] at hr
            subst hr
            have hj : j < P.cellsOf e := by have := (List.getElem?_eq_some_iff.1 hd).1; rw [hlen] at this; exact this
            obtain ⟨v', hv', h2⟩ := hat' i q hq j hj
            rw [hv] at hv'; cases hv'
            exact (h2 d hd).1)
      rw [hrows] at hrep
      exact one_row hrep rfl
end
def OpensArg (P : Program) (t : TypeId) {α : Type} (enc : α → D) (ok : α → Prop) : Prop :=
  ∀ (H : Type) (encH : TypeId × Value → H) (W : World) (base : Nat) (v : Value) (d : DataW H) (ps : List MemPlace), Value.okWide P W .any base t v → DataW.Trod encH P W 0 (fun _ => true) true t v d ps → ∃ a : α, ok a ∧ Rep (immOf W) noLocs (enc a) v
section
variable {P : Program}
theorem opensArg_one {t : TypeId} {α : Type} {e : α → D} {ok : α → Prop} (h : Opens P t (fun a => [e a]) ok) (h1 : ∀ W base v, Value.okWide P W .any base t v → v.oneCell' = true) : OpensArg P t e ok := by
  intro H encH W base v d ps hv ⟨fuel, hf⟩
  have ho := h1 W base v hv
  rw [Value.cells_one ho] at hf
  obtain ⟨a, g1, g2, g3⟩ := h H encH W fuel _ _ hf
  exact ⟨a, g1, (g3 0 _ v rfl rfl).1⟩
theorem opensArg_slice {t e' : TypeId} {α : Type} {e : α → D} {ok : α → Prop} (ht : P.underlying t = some (.slice e')) (h : Opens P t (fun a => [e a]) ok) : OpensArg P t e ok :=
  opensArg_one h fun W base v hv => by
    obtain ⟨a, len, cap, rfl⟩ := WideShapes.okWide_slice ht hv; rfl
theorem opensArg_agg {t : TypeId} {u : TypeDesc} {α : Type} {e : α → List D} {ok : α → Prop} (ht : P.underlying t = some u) (hu : isAggT u = true) (h : Opens P t e ok) : OpensArg P t (fun a => .agg (e a)) ok := by
  intro H encH W base v d ps hv ⟨fuel, hf⟩
  have : ∃ cs, v = .agg cs := by
    simp only [Value.okWide, ht] at hv
    cases u <;> simp [isAggT] at hu <;> exact ⟨hv.choose, hv.choose_spec.1⟩
  obtain ⟨cs, rfl⟩ := this
  obtain ⟨a, g1, g2, g3⟩ := h H encH W fuel _ _ hf
  simp only [Value.cells] at g2 g3
  exact ⟨a, g1, .agg _ _ _ (by simpa using g2.symm) fun i d x q1 q2 => (g3 i d x q1 (by simpa using q2)).1⟩
theorem trodAll_stays {H : Type} {enc : TypeId × Value → H} {W W' : World} {sp : Nat → Bool} (hl : laidOutB P = true) (hb : RowKit.Below W.heap.size W W') :
    ∀ {ts : List TypeId} {vs : List Value} {ds : List (DataW H)} {p : List MemPlace}, ts.all (fun t => P.readableRec t && decide (t < P.types.size)) = true → DataW.TrodAll enc P W 0 (fun _ => true) true ts vs ds p → (∀ x ∈ p, x.block < W.heap.size) → (∀ x ∈ p, sp x.block = true) →
      DataW.TrodAll enc P W' 0 sp true ts vs ds p
  | [], [], [], p, _, h, _, _ => h
  | t :: ts, v :: vs, d :: ds, p, ht, ⟨p1, q1, h1, h2, e⟩, hlt, hsp => by
    subst e
    simp only [List.all_cons, Bool.and_eq_true, decide_eq_true_eq] at ht
    exact ⟨p1, q1, WideElems.Trod_stays hl ht.1.1 ht.1.2 h1 (fun x hx => hb.same (hlt x (by simp [hx]))) (fun x hx => hsp x (by simp [hx])), trodAll_stays hl hb ht.2 h2 (fun x hx => hlt x (by simp [hx])) (fun x hx => hsp x (by simp [hx])), rfl⟩
  | [], _ :: _, _, _, _, h, _, _ => by simp [DataW.TrodAll] at h
  | [], [], _ :: _, _, _, h, _, _ => by simp [DataW.TrodAll] at h
  | _ :: _, [], _, _, _, h, _, _ => by simp [DataW.TrodAll] at h
  | _ :: _, _ :: _, [], _, _, h, _, _ => by simp [DataW.TrodAll] at h
theorem law_end {H : Type} {enc : TypeId × Value → H} {f : Func} {s : ChangeSpec} {apart fresh handsOn again : Bool} {W W' : World} {args : Array Value} {ds gs : List (DataW H)} {before : List MemPlace} {tb : TypeId}
    (hW : DataW.Whole enc P f.params.toList s.vars apart W args.toList ds gs before) (hvars : s.vars = []) (hb : RowKit.Below W.heap.size W W') (hres : (s.fn H (ds ++ gs)).results = [.lit (.bool true)]) (hargs : (s.fn H (ds ++ gs)).args = ds) (hvs : (s.fn H (ds ++ gs)).vars = [])
    (hrt : f.resultTypes = #[tb]) (htb : P.underlying tb = some .bool) (hl : laidOutB P = true) (hts : f.params.toList.all (fun t => P.readableRec t && decide (t < P.types.size)) = true) : s.post enc P f apart fresh handsOn again W args (.bool true) W' := by
  obtain ⟨p, q, hA, hV, hpq, hz, hn⟩ := hW
  have hV' := hV
  rw [hvars] at hV'
  obtain ⟨hgs, hq⟩ := ChangeShapes.trodVars_none hV'
  have hW : DataW.Whole enc P f.params.toList s.vars apart W args.toList ds gs before := ⟨p, q, hA, hV, hpq, hz, hn⟩
  have hlt : ∀ x ∈ before, x.block < W.heap.size := fun x hx => hW.lt x hx
  have hpp : before = p := by rw [hpq, hq]; simp
  have hargs' : ∀ sp : Nat → Bool, (∀ x ∈ before, sp x.block = true) → DataW.TrodAll enc P W' 0 sp true f.params.toList args.toList (s.fn H (ds ++ gs)).args p := fun sp hsp => by
    rw [hargs]
    exact trodAll_stays hl hb hts hA (fun x hx => hlt x (by rw [hpp]; exact hx)) (fun x hx => hsp x (by rw [hpp]; exact hx))
  have hvars' : ∀ sp : Nat → Bool, DataW.TrodVars enc P W' sp s.vars (s.fn H (ds ++ gs)).vars [] := fun sp => by
    rw [hvars, hvs]; rfl
  have hres' : ∀ (b : Nat) (sp : Nat → Bool) (hd : Bool), DataW.TrodAll enc P W' b sp hd f.resultTypes.toList ((Value.bool true).resultList f.resultTypes.size) (s.fn H (ds ++ gs)).results [] := fun b sp hd => by
    rw [hres, hrt]
    exact ⟨[], [], RowKit.shut_bool htb true, rfl, rfl⟩
  have hok := RowKit.ok_one (P := P) (W' := W') (v := .bool true) hrt rfl (RowKit.okWide_bool_mk htb true)
  have hold : ∀ x ∈ before, (fun b => decide (b < W.heap.size)) x.block = true := fun x hx => by simpa using hlt x hx
  refine ⟨ds, gs, before, [], p, [], hW, hres' _ _ _, hargs' _ hold, hvars' _, World.keptBut_mono (fun x hx => ⟨hx, ?_⟩) (hb.frame (· ∈ before)), fun _ => ?_⟩
  · rw [hpp] at hx; exact Or.inr (by simpa using hx)
  · refine ⟨hok, _, _, ([] ++ p) ++ [], ⟨[] ++ p, [], ChangeShapes.trodAll_append (hargs' _ (fun _ _ => rfl)) (hres' _ _ _), hvars' _, rfl, ?_, ?_⟩, ?_⟩
    · intro b off hp
      have hp' : MemPlace.cell b off ∈ before := by rw [hpp]; simpa using hp
      rw [hb.frozen (p := ⟨b, off, none⟩) (hlt _ hp')]
      exact hz b off hp'
    · intro ha
      have := hn ha
      rw [hpp] at this
      simpa using this
    · intro x hx _
      rw [hpp]
      simpa using hx
end
end Go.Ab
