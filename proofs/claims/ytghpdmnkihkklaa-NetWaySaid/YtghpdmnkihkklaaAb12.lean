/-
  ABSTRACT DATA FOR WALKS, 12: calls, regions, code.
-/
import Derived.Test.YtghpdmnkihkklaaAb11
namespace Go.Ab
set_option linter.unusedSimpArgs false
set_option linter.unusedVariables false

def St.adoptL (st : St) (nid : Nat) : List AObj → Nat → St
  | [], _ => st
  | o :: os, j => (St.adoptL st nid os (j + 1)).bind (nid + j) (o.ren (nid + ·))

/-- Objects name objects of higher numbers alone. -/
def objsOk : List AObj → Nat → Bool
  | [], _ => true
  | o :: os, j => (o.flat || o.rows.all (D.allL fun k => decide (j < k))) && objsOk os (j + 1)

mutual
def D.scal : D → Bool
  | .v _ => true
  | .junk => true
  | .agg cs => D.scalL cs
  | .tup cs => D.scalL cs
  | _ => false
def D.scalL : List D → Bool
  | [] => true
  | d :: ds => D.scal d && D.scalL ds
end

theorem D.scalL_get : ∀ {cs : List D}, D.scalL cs = true → ∀ {i : Nat} {d : D}, cs[i]? = some d → d.scal = true
  | [], _, i, d, h => by simp at h
  | c :: cs, ha, 0, d, h => by
    simp only [List.getElem?_cons_zero, Option.some.injEq] at h
    simp only [D.scalL, Bool.and_eq_true] at ha
    exact h ▸ ha.1
  | c :: cs, ha, i + 1, d, h => by
    simp only [List.getElem?_cons_succ] at h
    simp only [D.scalL, Bool.and_eq_true] at ha
    exact D.scalL_get ha.2 h

theorem Rep.scal {I J : Imm} {ρ ρ' : Locs} {d : D} {x : Value} (h : Rep I ρ d x) (hs : d.scal = true) : Rep J ρ' d x := by
  induction h with
  | v ρ x => exact .v _ x
  | agg ρ cs vs hl _ ih => exact .agg _ cs vs hl fun i d x h1 h2 => ih i d x h1 h2 (D.scalL_get (by simpa [D.scal] using hs) h1)
  | tup ρ cs vs hl _ ih => exact .tup _ cs vs hl fun i d x h1 h2 => ih i d x h1 h2 (D.scalL_get (by simpa [D.scal] using hs) h1)
  | junk ρ x => exact .junk _ x
  | _ => simp [D.scal] at hs

/-- A function that has a body, and no name of its own to the model. -/
def FnOk (P : Program) (f : FuncId) : Prop := ∃ fn, P.funcs[f]? = some fn ∧ (fn.name == "runtime.NumGoroutine") = false ∧ fn.body.isNone = false

def fnOf : D → Option (FuncId × List D)
  | .v (.func (.func f) a b) => if a.isEmpty = true ∧ b.isEmpty = true then some (f, []) else none
  | .fn (.func f) caps => some (f, caps)
  | _ => none

section
variable {P : Program} {E : Ent} {st : St} {a : Act} {w w' : World} {ρ : Locs} {I J : Imm} {tt : TypeId → Option TI}

theorem RB.adoptL {nid n0 : Nat} {objs : List AObj} {ρ' : Locs} (hm : Mem I ρ' (fun j => objs[j]?) w) (hdom : ∀ j l, ρ' j = some l → j < objs.length) (hfr : ∀ (j : Nat) o l b, objs[j]? = some o → o.wr = true → ρ' j = some l → l.blk = some b → n0 ≤ b)
    (h0 : E.w0.heap.size ≤ n0) (h : RB E st a w ρ I) (hold : ∀ i o l b, st.heap i = some o → o.wr = true → ρ i = some l → l.blk = some b → b < n0) :
    ∀ (os : List AObj) (j : Nat), (∀ k, os[k]? = objs[j + k]?) → objsOk os j = true → ∃ ρ2, RB E (st.adoptL nid os j) a w ρ2 I ∧ (∀ k l, j ≤ k → k < j + os.length → ρ' k = some l → ρ2 (nid + k) = some l) ∧
      ∀ i o l b, (st.adoptL nid os j).heap i = some o → o.wr = true → ρ2 i = some l → l.blk = some b → b < n0 ∨ ∃ k o', j ≤ k ∧ k < j + os.length ∧ i = nid + k ∧ objs[k]? = some o' ∧ o'.wr = true ∧ ρ' k = some l
  | [], j, _, _ => ⟨ρ, h, fun k l h1 h2 => by simp at h2; omega, fun i o l b h1 h2 h3 h4 => .inl (hold i o l b h1 h2 h3 h4)⟩
  | o :: os, j, hos, hok => by
    simp only [objsOk, Bool.and_eq_true] at hok
    obtain ⟨ρ2, r1, r2, r3⟩ := RB.adoptL (nid := nid) hm hdom hfr h0 h hold os (j + 1) (fun k => by have := hos (k + 1); rw [show j + 1 + k = j + (k + 1) by omega]; simpa using this) hok.2
    have hoj : objs[j]? = some o := by have := hos 0; simpa using this.symm
    obtain ⟨l, hl, hlaid⟩ := hm.laid j o hoj
    have hlen : j + 1 + os.length ≤ objs.length := by
      rcases Nat.eq_zero_or_pos os.length with e | e
      · have := (List.getElem?_eq_some_iff.1 hoj).1; omega
      · have := hos os.length
        simp only [List.length_cons, List.getElem?_eq_getElem (show os.length < (o :: os).length by simp)] at this
        have := (List.getElem?_eq_some_iff.1 this.symm).1
        omega
    have hlaid' : LaidObj I ρ2 w (o.ren (nid + ·)) l := by
      cases hf : o.flat with
      | true =>
        have e : o.ren (nid + ·) = o := by simp [AObj.ren, hf]
        rw [e]
        exact hlaid.kept (fun _ _ q => q) (fun _ _ => rfl) (fun _ _ _ q => q) (fun d x q => q) |> fun q => by
          refine ⟨q.sz, q.pos, q.rows, q.cap, ?_⟩
          rcases q.mem with g0 | ⟨b, c, e, lo, hi, g1, g2, g3, g4, g5, g6, hone, g7⟩
          · exact .inl g0
          · refine .inr ⟨b, c, e, lo, hi, g1, g2, g3, g4, g5, g6, hone, fun i j row d x q1 q2 q3 => ?_⟩
            have := g7 i j row d x q1 q2 q3
            simpa [hf] using this
      | false =>
        have e : o.ren (nid + ·) = { o with rows := o.rows.map (D.renL (nid + ·)) } := by simp [AObj.ren, hf]
        have hall : o.rows.all (D.allL fun k => decide (j < k)) = true := by
          have := hok.1
          simpa [hf] using this
        rw [e]
        refine ⟨hlaid.sz, hlaid.pos, ?_, by simpa using hlaid.cap, ?_⟩
        · intro row hr
          simp only [List.mem_map] at hr
          obtain ⟨row', hr', rfl⟩ := hr
          rw [D.renL_length]; exact hlaid.rows _ hr'
        rcases hlaid.mem with g0 | ⟨b, c, e, lo, hi, g1, g2, g3, g4, g5, g6, hone, g7⟩
        · exact .inl g0
        · refine .inr ⟨b, c, e, lo, hi, g1, g2, g3, g4, g5, g6, hone, fun i jj row d x q1 q2 q3 => ?_⟩
          have q1' : (o.rows.map (D.renL (nid + ·)))[i]? = some row := q1
          rw [List.getElem?_map] at q1'
          cases hr : o.rows[i]? with
          | none => simp [hr] at q1'
          | some row' =>
            simp only [hr, Option.map_some, Option.some.injEq] at q1'
            subst q1'
            rw [D.renL_get] at q2
            cases hd : row'[jj]? with
            | none => simp [hd] at q2
            | some d' =>
              simp only [hd, Option.map_some, Option.some.injEq] at q2
              subst q2
              have hrep := g7 i jj row' d' x hr hd q3
              simp only [hf] at hrep ⊢
              have hall' : d'.all (fun k => decide (j < k)) = true := by
                have := List.all_eq_true.1 hall row' (List.mem_of_getElem? hr)
                exact D.allL_get this hd
              let ρr : Locs := fun k => if j < k then ρ' k else none
              have hrep' : Rep I ρr d' x := Rep.locs (p := fun k => decide (j < k)) (fun k hk => by simp only [decide_eq_true_eq] at hk; simp [ρr, hk]) hrep hall'
              refine hrep'.ren fun k l' hk => ?_
              simp only [ρr] at hk
              split at hk
              · rename_i hjk
                have hlt : k < objs.length := hdom k l' hk
                exact r2 k l' (by omega) (by
                  have hlen2 : objs.length ≤ j + 1 + os.length := by
                    rcases Nat.lt_or_ge (j + 1 + os.length) objs.length with q | q
                    · have := hos (os.length + 1)
                      simp only [List.length_cons, List.getElem?_eq_none (show (o :: os).length ≤ os.length + 1 by simp)] at this
                      rw [List.getElem?_eq_getElem (by omega)] at this
                      cases this
                    · exact q
                  omega) hk
              · cases hk
    refine ⟨updL ρ2 (nid + j) l, ?_, ?_, ?_⟩
    · refine r1.adopt hlaid' (fun b hb hwr i2 o2 l2 hne h2 hw2 hl2 hb2 => ?_) (fun b hb hwr => ?_)
      · rw [AObj.ren_wr] at hwr
        rcases r3 i2 o2 l2 b h2 hw2 hl2 hb2 with q | ⟨k, o', k1, k2, k3, k4, k5, k6⟩
        · have := hfr j o l b hoj hwr hl hb; omega
        · have := hm.apart j o l k o' l2 b hoj hwr hl hb k4 k5 k6 hb2
          omega
      · rw [AObj.ren_wr] at hwr
        have := hfr j o l b hoj hwr hl hb
        right; omega
    · intro k l' h1 h2 h3
      by_cases e : k = j
      · subst e; rw [hl] at h3; cases h3; exact updL_eq
      · rw [updL_ne _ (by omega)]
        exact r2 k l' (by omega) (by simp at h2; omega) h3
    · intro i oi li b h1 h2 h3 h4
      simp only [St.adoptL, St.bind, upd] at h1
      by_cases e : i = nid + j
      · subst e
        rw [updL_eq] at h3; cases h3
        simp only [if_true, Option.some.injEq] at h1
        rw [← h1, AObj.kill_wr, AObj.ren_wr] at h2
        exact .inr ⟨j, o, Nat.le_refl _, by simp, rfl, hoj, h2, hl⟩
      · simp only [e, if_false] at h1
        rw [updL_ne _ e] at h3
        obtain ⟨_, o', h5, rfl⟩ := killH_some h1
        rw [AObj.kill_wr] at h2
        rcases r3 i o' li b h5 h2 h3 h4 with q | ⟨k, o2, k1, k2, k3, k4, k5, k6⟩
        · exact .inl q
        · exact .inr ⟨k, o2, by omega, by simp; omega, k3, k4, k5, k6⟩

theorem RB.oldBlk (h : RB E st a w ρ I) : ∀ i o l b, st.heap i = some o → o.wr = true → ρ i = some l → l.blk = some b → b < w.heap.size := by
  intro i o l b h1 _ h3 h4
  obtain ⟨l', e, hl⟩ := h.mem.laid i o h1
  rw [h3] at e; cases e
  exact blk_lt hl h4

/-- A call of a function whose contract is known. -/
theorem RB.callPure (h : RB E st a w ρ I) {f : FuncId} {args ds : List D} {ids : List Nat} {p : Prop} {r : D} {objs : List AObj} {vs : List Value} (nid : Nat) (hpur : Go.Ab.purL (Go.Ab.pur st.heap 4) args = some (ids, p, ds)) (hp : p) (hu : RepL I ρ args vs)
    (hc : Contract P f ds r objs) (hok : objsOk objs 0 = true) :
    Calls P f vs.toArray w fun e w' => ∃ v, e = .returned v ∧ Did E ((st.freeze ids).adoptL nid objs 0) a (r.ren (nid + ·)) v w' := by
  obtain ⟨J, hJ, h', hds⟩ := h.purL hpur hp hu
  refine (hc w J vs h'.mem.imm hds).mono fun e w' ⟨v, ρ', I', he, c1, c2, c3, c4, c5, c6, c7⟩ => ⟨v, he, ?_⟩
  have hw := h'.world c6 c1 c2 c4.imm
  obtain ⟨ρ2, r1, r2, r3⟩ := RB.adoptL (nid := nid) (n0 := w.heap.size) c4 c5 c7 h.ext.size hw h'.oldBlk objs 0 (by simp) hok
  refine ⟨ρ2, I', r1, c3.ren fun k l hk => r2 k l (Nat.zero_le _) (by have := c5 k l hk; omega) hk⟩

theorem RB.callScal (h : RB E st a w ρ I) {f : FuncId} {args ds : List D} {ids : List Nat} {p : Prop} {r : D} {vs : List Value} (hpur : Go.Ab.purL (Go.Ab.pur st.heap 4) args = some (ids, p, ds)) (hp : p) (hu : RepL I ρ args vs)
    (hc : Contract P f ds r []) (hs : r.scal = true) : Calls P f vs.toArray w fun e w' => ∃ v, e = .returned v ∧ Did E st a r v w' := by
  obtain ⟨J, hJ, h', hds⟩ := h.purL hpur hp hu
  refine (hc w J vs h'.mem.imm hds).mono fun e w' ⟨v, ρ', I', he, c1, c2, c3, c4, c5, c6, c7⟩ => ⟨v, he, ρ, I, ?_, c3.scal hs⟩
  exact h.world c6 (fun _ _ q => q) (fun _ _ q => .inl q) (fun b c q => c4.imm b c (c1 b c (hJ b c q)))

end

/-! ### operations one behind the other -/

def St.want (st : St) (ops : Array Oper) (o : Oper) : Option Bool :=
  match o.guard with
  | none => some true
  | some (j, b) => match (ops[j]?).bind (·.dst) with
    | some t => match st.slots t with
      | some (.v (.bool x)) => some (x == b)
      | some (.v (.tuple _)) => some false
      | _ => none
    | none => none

/-- Where an operation is a call: of what, with what. -/
def St.callOf (st : St) : Op → Option (FuncId × List D)
  | .call c => match c.callee with
    | .value fo => match st.ev fo, st.evL c.args.toList with
      | some fd, some args => match fnOf fd with
        | some (f, caps) => some (f, args ++ caps)
        | none => none
      | _, _ => none
    | _ => none
  | _ => none

/-- What is owed at a call (it stands still there: a contract is laid). -/
def CallVC (P : Program) (f : FuncId) (ds : List D) (st : St) (ids : List Nat) (nid : Nat) (K : St → D → Prop) : Prop :=
  FnOk P f ∧ ((∃ r objs, Contract P f ds r objs ∧ objsOk objs 0 = true ∧ K ((st.freeze ids).adoptL nid objs 0) (r.ren (nid + ·))) ∨ (∃ r, Contract P f ds r [] ∧ r.scal = true ∧ K st r))

/-- A slice held against nil: when it is, it is empty; which it is nobody knows. -/
def St.nilCmp (tt : TypeId → Option TI) (st : St) : Op → Option (Prop × Bool)
  | .binOp op T x (.const (.slice none 0 0)) _ => match (tt T).map TI.und, st.ev x with
    | some (.slice _), some (.sl _ rows) => match op with
      | .eql => some (rows = [], false)
      | .neq => some (rows = [], true)
      | _ => none
    | some (.slice _), some (.own _ _ len) => match op with
      | .eql => some (len = 0, false)
      | .neq => some (len = 0, true)
      | _ => none
    | _, _ => none
  | _ => none

def aops (P : Program) (tt : TypeId → Option TI) (ops : Array Oper) (K : St → Prop) : Nat → List Oper → St → Prop
  | _, [], st => K st
  | id, o :: rest, st => match st.want ops o with
    | some false => st.fits o.dst = true ∧ aops P tt ops K (id + 1) rest (st.put o.dst (.v (.tuple #[])))
    | some true => match exec1 tt id st o.op with
      | some (p, st1, d) => p ∧ st1.fits o.dst = true ∧ aops P tt ops K (id + 1) rest (st1.put o.dst d)
      | none => match st.callOf o.op with
        | some (f, args) => match purL (pur st.heap 4) args with
          | some (ids, p, ds) => p ∧ CallVC P f ds st ids (id + 100000) fun st1 d => st1.fits o.dst = true ∧ aops P tt ops K (id + 1) rest (st1.put o.dst d)
          | none => False
        | none => match st.nilCmp tt o.op with
          | some (p, neg) => ∀ b : Bool, (b = true → p) → st.fits o.dst = true ∧ aops P tt ops K (id + 1) rest (st.put o.dst (.v (.bool (b != neg))))
          | none => False
    | none => False

section
variable {P : Program} {E : Ent} {st : St} {a : Act} {w w' : World} {ρ : Locs} {I J : Imm} {tt : TypeId → Option TI}

theorem RB.want (h : RB E st a w ρ I) {ops : Array Oper} {o : Oper} {b : Bool} (hw : st.want ops o = some b) : Region.wanted o (yielded ops a.tmps) = b := by
  unfold St.want at hw
  unfold Region.wanted
  split at hw
  · rename_i hg
    simp only [Option.some.injEq] at hw
    subst hw
    simp [hg]
  · rename_i j wb hg
    split at hw
    · rename_i t ht
      split at hw
      · rename_i x hx
        simp only [Option.some.injEq] at hw
        obtain ⟨q1, q2⟩ := h.slots t _ hx
        have e := rep_v_inv q2
        have hlt : t < a.tmps.size := by rw [h.size]; exact q1
        have e2 : a.tmps[t]? = some (.bool x) := by
          rw [Array.getElem?_eq_getElem hlt]
          simp only [Array.getD_eq_getD_getElem?, Array.getElem?_eq_getElem hlt, Option.getD_some] at e
          rw [e]
        simp only [hg, yielded, ht, Option.bind_some, e2]
        rw [← hw]
        cases x <;> cases wb <;> rfl
      · rename_i x hx
        simp only [Option.some.injEq] at hw
        obtain ⟨q1, q2⟩ := h.slots t _ hx
        have e := rep_v_inv q2
        have hlt : t < a.tmps.size := by rw [h.size]; exact q1
        have e2 : a.tmps[t]? = some (.tuple x) := by
          rw [Array.getElem?_eq_getElem hlt]
          simp only [Array.getD_eq_getD_getElem?, Array.getElem?_eq_getElem hlt, Option.getD_some] at e
          rw [e]
        simp only [hg, yielded, ht, Option.bind_some, e2]
        rw [← hw]
        rfl
      · cases hw
    · cases hw

theorem RB.fitsPut (h : RB E st a w ρ I) {dst : Option Tmp} {d : D} {x : Value} (hf : st.fits dst = true) (hd : Rep I ρ d x) : RB E (st.put dst d) (a.put dst x) w ρ I := h.put hf hd

theorem run_callFunc {f : FuncId} {args : Array Value} (hf : FnOk P f) : (callFunc f args).run P w = .ok (.enter f args) w := by
  obtain ⟨fn, h1, h2, h3⟩ := hf
  simp only [callFunc, Sem.run_bind, run_program, Result.andThen_ok, h1]
  simp [h2, h3]

theorem fnOf_run (hI : True) {fd : D} {f : FuncId} {caps : List D} {v : Value} (hf : fnOf fd = some (f, caps)) (hv : Rep I ρ fd v) : ∃ cvs : List Value, v = .func (.func f) #[] cvs.toArray ∧ RepL I ρ caps cvs := by
  unfold fnOf at hf
  split at hf
  · rename_i f' fa fb
    split at hf
    · rename_i he
      simp only [Option.some.injEq, Prod.mk.injEq] at hf
      obtain ⟨rfl, rfl⟩ := hf
      have h1 : fa = #[] := by simpa using he.1
      have h2 : fb = #[] := by simpa using he.2
      subst h1 h2
      exact ⟨[], rep_v_inv hv, trivial⟩
    · cases hf
  · simp only [Option.some.injEq, Prod.mk.injEq] at hf
    obtain ⟨rfl, rfl⟩ := hf
    cases hv with
    | fn _ _ _ vs hl hh =>
      refine ⟨vs.toList, by simp, ?_⟩
      have key : ∀ (cs : List D) (xs : List Value), cs.length = xs.length → (∀ (i : Nat) (d : D) (x : Value), cs[i]? = some d → xs[i]? = some x → Rep I ρ d x) → RepL I ρ cs xs := by
        intro cs
        induction cs with
        | nil => intro xs hx _; cases xs with
          | nil => trivial
          | cons _ _ => simp at hx
        | cons c cs ih => intro xs hx hh; cases xs with
          | nil => simp at hx
          | cons x xs => exact ⟨hh 0 c x (by simp) (by simp), ih xs (by simpa using hx) fun i d y h1 h2 => hh (i + 1) d y (by simpa using h1) (by simpa using h2)⟩
      exact key _ _ (by simpa using hl) (fun i d x h1 h2 => hh i d x h1 (by simpa using h2))
  · cases hf

theorem RepL.append : ∀ {ds1 ds2 : List D} {xs1 xs2 : List Value}, RepL I ρ ds1 xs1 → RepL I ρ ds2 xs2 → RepL I ρ (ds1 ++ ds2) (xs1 ++ xs2)
  | [], _, [], _, _, h => h
  | d :: ds, _, x :: xs, _, h, h' => ⟨h.1, RepL.append h.2 h'⟩
  | [], _, _ :: _, _, h, _ => by simp [RepL] at h
  | _ :: _, _, [], _, h, _ => by simp [RepL] at h

theorem RB.callOf (h : RB E st a w ρ I) {o : Oper} {f : FuncId} {args : List D} (hc : st.callOf o.op = some (f, args)) (hf : FnOk P f) :
    ∃ vs : List Value, (execOp a.eval o).run P w = .ok (.enter f vs.toArray) w ∧ RepL I ρ args vs := by
  unfold St.callOf at hc
  split at hc
  · rename_i c ho
    split at hc
    · rename_i fo hcal
      split at hc
      · rename_i fd as hfd has
        split at hc
        · rename_i f' caps hfn
          simp only [Option.some.injEq, Prod.mk.injEq] at hc
          obtain ⟨rfl, rfl⟩ := hc
          obtain ⟨cvs, hv, hcv⟩ := fnOf_run trivial hfn (h.ev hfd)
          refine ⟨c.args.toList.map a.eval ++ cvs, ?_, (h.evL has).append hcv⟩
          unfold execOp
          simp only [ho, Sem.run_bind, resolve, hcal, hv, Deferred.ofValue, Sem.run_pure, Result.andThen_ok, invoke]
          rw [run_callFunc hf]
          congr 2
          apply Array.ext'
          simp
        · cases hc
      · cases hc
    · cases hc
  · cases hc

theorem run_equalIn_sl (d : Nat) {T e : TypeId} (h : P.underlying T = some (.slice e)) (b : Option Addr) (n c : Nat) : (Op.equalIn (d + 1) T (.slice b n c) (.slice none 0 0)).run P w = .ok b.isNone w := by
  cases b <;> simp [Op.equalIn, run_underlying h]
theorem run_eql_sl {T e : TypeId} (h : P.underlying T = some (.slice e)) (b : Option Addr) (n c : Nat) : (binOp .eql T (.slice b n c) (.slice none 0 0)).run P w = .ok (.bool b.isNone) w := by
  simp only [binOp]
  simp [Op.equal, Op.maxDepth, run_equalIn_sl 9999 h]
theorem run_neq_sl {T e : TypeId} (h : P.underlying T = some (.slice e)) (b : Option Addr) (n c : Nat) : (binOp .neq T (.slice b n c) (.slice none 0 0)).run P w = .ok (.bool !b.isNone) w := by
  simp only [binOp]
  simp [Op.equal, Op.maxDepth, run_equalIn_sl 9999 h]

theorem RB.nilCmp (ht : TTok P tt) (h : RB E st a w ρ I) {o : Oper} {p : Prop} {neg : Bool} (hn : st.nilCmp tt o.op = some (p, neg)) :
    ∃ b : Bool, (b = true → p) ∧ (execOp a.eval o).run P w = .ok (.value (.bool (b != neg))) w := by
  unfold St.nilCmp at hn
  split at hn
  · rename_i op T x yt ho
    have key : ∀ (b : Option Addr) (n c : Nat), a.eval x = .slice b n c → (∃ e, P.underlying T = some (.slice e)) → (op = .eql ∧ neg = false ∨ op = .neq ∧ neg = true) → (execOp a.eval o).run P w = .ok (.value (.bool (b.isNone != neg))) w := by
      rintro b n c hx ⟨e, he⟩ hop
      unfold execOp
      rw [ho]
      simp only [Sem.run_bind, Act.eval] at hx ⊢
      rw [hx]
      rcases hop with ⟨rfl, rfl⟩ | ⟨rfl, rfl⟩
      · rw [run_eqGuard_plain (by simp) (by simp)]
        simp [run_eql_sl he]
      · rw [run_eqGuard_plain (by simp) (by simp)]
        simp [run_neq_sl he]
    have hund : ∀ e, (tt T).map TI.und = some (.slice e) → P.underlying T = some (.slice e) := fun e he => slice_und ht he
    split at hn
    · rename_i e full rows hT hx
      obtain ⟨ad, cap, hv, _, _, hr⟩ := rows_of_sl h.mem.imm (h.ev hx)
      have hb : ad.isNone = true → rows = [] := fun q => by
        refine Classical.byContradiction fun hne => ?_
        obtain ⟨b, o', sz, e1, _⟩ := hr hne
        rw [e1] at q; cases q
      split at hn <;> simp only [Option.some.injEq, Prod.mk.injEq, reduceCtorEq] at hn
      · obtain ⟨rfl, rfl⟩ := hn
        exact ⟨_, hb, key _ _ _ hv ⟨e, hund e hT⟩ (.inl ⟨rfl, rfl⟩)⟩
      · obtain ⟨rfl, rfl⟩ := hn
        exact ⟨_, hb, key _ _ _ hv ⟨e, hund e hT⟩ (.inr ⟨rfl, rfl⟩)⟩
    · rename_i e id off len hT hx
      have hrep := h.ev hx
      generalize hv : a.eval x = v at hrep
      cases hrep with
      | own _ _ _ _ l ad hl hcap ha =>
        have hb : ad.isNone = true → len = 0 := fun q => by
          rcases ha with ha | ⟨b, _, e1⟩
          · omega
          · rw [e1] at q; cases q
        split at hn <;> simp only [Option.some.injEq, Prod.mk.injEq, reduceCtorEq] at hn
        · obtain ⟨rfl, rfl⟩ := hn
          exact ⟨_, hb, key _ _ _ hv ⟨e, hund e hT⟩ (.inl ⟨rfl, rfl⟩)⟩
        · obtain ⟨rfl, rfl⟩ := hn
          exact ⟨_, hb, key _ _ _ hv ⟨e, hund e hT⟩ (.inr ⟨rfl, rfl⟩)⟩
    · cases hn
  · cases hn

theorem wpOps_of_aops (ht : TTok P tt) {ops : Array Oper} {K : St → Prop} {Q : Exit → Act → World → Prop} (hK : ∀ st' a' w', K st' → R E st' a' w' → Q .normal a' w') :
    ∀ (l : List Oper) (k id : Nat) (st : St) (a : Act) (w : World), ops.toList.drop k = l → aops P tt ops K id l st → R E st a w → wpOps P ops Q ((List.range ops.size).drop k) a w
  | [], k, id, st, a, w, hl, hop, hR => by
    have : ops.size ≤ k := by have := congrArg List.length hl; simp at this; omega
    rw [List.drop_of_length_le (by simpa using this)]
    exact hK st a w hop hR
  | o :: rest, k, id, st, a, w, hl, hop, hR => by
    have hk : k < ops.size := by have := congrArg List.length hl; simp at this; omega
    have hok : ops[k]? = some o := by
      have := congrArg (·[0]?) hl
      simpa using this
    have hrest : ops.toList.drop (k + 1) = rest := by
      rw [← List.drop_drop, hl]; rfl
    have hrange : (List.range ops.size).drop k = k :: (List.range ops.size).drop (k + 1) := by
      rw [List.drop_eq_getElem_cons (by simpa using hk)]; simp
    rw [hrange]
    simp only [wpOps, hok]
    obtain ⟨ρ, I, h⟩ := hR
    simp only [aops] at hop
    split at hop
    · rename_i hw
      rw [h.want hw]
      simp only [Bool.false_eq_true, if_false]
      exact wpOps_of_aops ht hK rest (k + 1) (id + 1) _ _ _ hrest hop.2 ⟨ρ, I, h.put hop.1 (.v _ _)⟩
    · rename_i hw
      rw [h.want hw]
      simp only [if_true]
      left
      unfold Oper.wp
      split at hop
      · rename_i p st1 d he
        obtain ⟨nx, v, w', r1, r2, ρ', J, r3, r4⟩ := h.exec1 ht he hop.1
        have hnext := wpOps_of_aops ht hK rest (k + 1) (id + 1) _ (a.put o.dst v) w' hrest hop.2.2 ⟨ρ', J, r3.put hop.2.1 r4⟩
        rw [r1]
        rcases r2 with rfl | ⟨rfl, rfl⟩
        · exact hnext
        · exact hnext
      · split at hop
        · rename_i f args hc
          split at hop
          · rename_i ids p ds hpur
            obtain ⟨hp, hfn, hvc⟩ := hop
            obtain ⟨vs, r1, r2⟩ := h.callOf hc hfn
            rw [r1, Oper.upon_enter]
            rcases hvc with ⟨r, objs, c1, c2, c3⟩ | ⟨r, c1, c2, c3⟩
            · refine (h.callPure (id + 100000) hpur hp r2 c1 c2).mono fun e w' ⟨v, he, ρ', J, d1, d2⟩ => ?_
              subst he
              exact wpOps_of_aops ht hK rest (k + 1) (id + 1) _ _ _ hrest c3.2 ⟨ρ', J, d1.put c3.1 d2⟩
            · refine (h.callScal hpur hp r2 c1 c2).mono fun e w' ⟨v, he, ρ', J, d1, d2⟩ => ?_
              subst he
              exact wpOps_of_aops ht hK rest (k + 1) (id + 1) _ _ _ hrest c3.2 ⟨ρ', J, d1.put c3.1 d2⟩
          · exact hop.elim
        · split at hop
          · rename_i p neg hn
            obtain ⟨b, hb, hrun⟩ := h.nilCmp ht hn
            have := hop b hb
            rw [hrun]
            exact wpOps_of_aops ht hK rest (k + 1) (id + 1) _ _ _ hrest this.2 ⟨ρ, I, h.put this.1 (.v _ _)⟩
          · exact hop.elim
    · exact hop.elim

end

/-! ### code -/

def AWP (P : Program) (E : Ent) (c : Code) (Q : Exit → St → Prop) (st : St) : Prop :=
  ∀ a w, R E st a w → c.wp P (fun e a' w' => ∃ st', Q e st' ∧ R E st' a' w') a w

def thenA (P : Program) (E : Ent) (y : Code) (Q : Exit → St → Prop) : Exit → St → Prop
  | .normal, st => AWP P E y Q st
  | e, st => Q e st
def blockA (id : Nat) (Q : Exit → St → Prop) : Exit → St → Prop
  | .exit id', st => if id' = id then Q .normal st else Q (.exit id') st
  | e, st => Q e st

/-- st' knows no more than st. -/
structure St.le (st' st : St) : Prop where
  n : st'.n = st.n
  slots : ∀ t d, st'.slots t = some d → st.slots t = some d
  heap : ∀ id o, st'.heap id = some o → st.heap id = some o

section
variable {P : Program} {E : Ent} {st : St} {tt : TypeId → Option TI} {Q : Exit → St → Prop}

theorem R.le {st' : St} {a : Act} {w : World} (h : R E st a w) (hl : st'.le st) : R E st' a w := by
  obtain ⟨ρ, I, h⟩ := h
  exact ⟨ρ, I, h.weaken hl.n hl.slots hl.heap⟩

theorem awp_le {c : Code} {st' : St} (h : AWP P E c Q st') (hl : st'.le st) : AWP P E c Q st := fun a w hR => h a w (hR.le hl)
theorem awp_mono {c : Code} {Q' : Exit → St → Prop} (h : AWP P E c Q st) (hq : ∀ e s, Q e s → Q' e s) : AWP P E c Q' st :=
  fun a w hR => wp_mono (h a w hR) fun e a' w' ⟨st', q, r⟩ => ⟨st', hq e st' q, r⟩

theorem awp_skip (h : Q .normal st) : AWP P E .skip Q st := fun a w hR => wp_skip ⟨st, h, hR⟩
theorem awp_label {l : Nat} (h : Q .normal st) : AWP P E (.label l) Q st := fun a w hR => wp_label ⟨st, h, hR⟩
theorem awp_exit {id : Nat} (h : Q (.exit id) st) : AWP P E (.exit id) Q st := fun a w hR => wp_exit ⟨st, h, hR⟩
theorem awp_ret (h : Q .ret st) : AWP P E .ret Q st := fun a w hR => wp_ret ⟨st, h, hR⟩
theorem awp_seq {x y : Code} (h : AWP P E x (thenA P E y Q) st) : AWP P E (.seq x y) Q st := by
  intro a w hR
  refine wp_seq (wp_mono (h a w hR) fun e a' w' ⟨st', q, r⟩ => ?_)
  cases e with
  | normal => exact q a' w' r
  | _ => exact ⟨st', q, r⟩
theorem awp_cond {c : Operand} {x y : Code} {t : Bool} (hc : st.ev c = some (.v (.bool t))) (h1 : t = true → AWP P E x Q st) (h2 : t = false → AWP P E y Q st) : AWP P E (.cond c x y) Q st := by
  intro a w hR
  have he : a.eval c = .bool t := by
    obtain ⟨ρ, I, h⟩ := hR
    exact rep_v_inv (h.ev hc)
  exact wp_cond_split he (fun q => h1 q a w hR) (fun q => h2 q a w hR)
theorem awp_block {id : Nat} {c : Code} (h : AWP P E c (blockA id Q) st) : AWP P E (.block id c) Q st := by
  intro a w hR
  refine wp_block (wp_mono (h a w hR) fun e a' w' ⟨st', q, r⟩ => ?_)
  cases e with
  | exit id' =>
    simp only [blockA] at q
    simp only [Exit.inBlock]
    split at q
    · rename_i e; rw [if_pos e]; exact ⟨st', q, r⟩
    · rename_i e; rw [if_neg e]; exact ⟨st', q, r⟩
  | _ => exact ⟨st', q, r⟩

theorem wp_loop_x {X : Type} {c : Code} {Q : Exit → Act → World → Prop} (I : X → Act → World → Prop) (μ : X → Nat) (round : ∀ x a w, I x a w → c.wp P (Exit.then (fun a' w' => ∃ x', I x' a' w' ∧ μ x' < μ x) Q) a w) (x : X) (a : Act) (w : World) (h : I x a w) :
    (Code.loop c).wp P Q a w := by
  intro b k cs
  have key : ∀ n x a w, μ x = n → I x a w → ∃ e a' w', Q e a' w' ∧ Arrives P (lone (b.at a (.code c :: .inLoop c :: k)) cs w) b k cs e a' w' := by
    intro n
    induction n using Nat.strongRecOn with
    | _ n ih =>
      intro x a w hn hI
      obtain ⟨e, a₁, w₁, hq, harr⟩ := round x a w hI b (.inLoop c :: k) cs
      cases e with
      | normal =>
        obtain ⟨x₁, hI₁, hlt⟩ := hq
        obtain ⟨e₂, a₂, w₂, hq₂, harr₂⟩ := ih (μ x₁) (hn ▸ hlt) x₁ a₁ w₁ rfl hI₁
        exact ⟨e₂, a₂, w₂, hq₂, .of_steps (Steps.trans harr (.one step_inLoop)) harr₂⟩
      | exit id => exact ⟨_, a₁, w₁, hq, .pass (x := .inLoop c) rfl (fun _ _ => .inl (by simp)) harr⟩
      | goto l => exact ⟨_, a₁, w₁, hq, .pass (x := .inLoop c) rfl (fun _ _ => .inl (by simp)) harr⟩
      | ret => exact ⟨_, a₁, w₁, hq, .pass (x := .inLoop c) rfl (fun _ _ => .inl (by simp)) harr⟩
      | panic ch => exact ⟨_, a₁, w₁, hq, .pass (x := .inLoop c) rfl (fun _ _ => .inl (by simp)) harr⟩
      | outgrown => exact ⟨_, a₁, w₁, hq, .pass (x := .inLoop c) rfl (fun _ _ => .inl (by simp)) harr⟩
  obtain ⟨e, a', w', hq, harr⟩ := key _ x a w rfl h
  exact ⟨e, a', w', hq, .of_steps (.one step_loop) harr⟩

def loopA {X : Type} (T : X → St) (Inv : X → Prop) (μ : X → Nat) (x : X) (Q : Exit → St → Prop) : Exit → St → Prop
  | .normal, st => ∃ x', Inv x' ∧ μ x' < μ x ∧ (T x').le st
  | e, st => Q e st

/-- A loop: what holds at every round's head (a state for each x), and what sinks. -/
theorem awp_loop {X : Type} {c : Code} (T : X → St) (Inv : X → Prop) (μ : X → Nat) (x0 : X) (h0 : Inv x0) (hle : (T x0).le st) (round : ∀ x, Inv x → AWP P E c (loopA T Inv μ x Q) (T x)) : AWP P E (.loop c) Q st := by
  intro a w hR
  refine wp_loop_x (fun x a w => Inv x ∧ R E (T x) a w) μ (fun x a w ⟨hi, hr⟩ => wp_mono (round x hi a w hr) fun e a' w' ⟨st', q, r⟩ => ?_) x0 a w ⟨h0, hR.le hle⟩
  cases e with
  | normal =>
    obtain ⟨x', q1, q2, q3⟩ := q
    exact ⟨x', ⟨q1, r.le q3⟩, q2⟩
  | _ => exact ⟨st', q, r⟩

theorem awp_region (ht : TTok P tt) {rid : Nat} {ops : Array Oper} (id : Nat) (h : aops P tt ops (fun st' => Q .normal st') id ops.toList st) : AWP P E (.region rid ops false) Q st := by
  intro a w hR
  refine wp_region ?_
  have := wpOps_of_aops ht (Q := fun e a' w' => ∃ st', Q e st' ∧ R E st' a' w') (fun st' a' w' q r => ⟨st', q, r⟩) ops.toList 0 id st a w (by simp) h hR
  simpa using this

/-! ### whole functions -/

def St.result (st : St) : List Tmp → Option D
  | [t] => st.slots t
  | ts => match st.evL (ts.map Operand.tmp) with
    | some ds => some (.tup ds)
    | none => none

/-- What must hold at a function's end for its contract. -/
def Ends (rs : List Tmp) (r : D) (objs : List AObj) (gs : List Nat) (e : Exit) (st : St) : Prop :=
  (e = .normal ∨ e = .ret) ∧ gs.length = objs.length ∧ gs.Nodup ∧ (r.all fun k => decide (k < objs.length)) = true ∧ (∀ o ∈ objs, o.flat = true ∨ o.rows.all (D.allL fun k => decide (k < objs.length)) = true) ∧
    st.result rs = some (r.ren fun j => gs.getD j 0) ∧ ∀ j o, objs[j]? = some o → st.heap (gs.getD j 0) = some (o.ren fun j => gs.getD j 0)

def startSt (n : Nat) (ds : List D) : St := { n := n, slots := fun t => ds[t]?, heap := fun _ => none }

end
end Go.Ab
