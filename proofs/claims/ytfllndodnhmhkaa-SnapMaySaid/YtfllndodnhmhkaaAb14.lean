/-
  ABSTRACT DATA FOR WALKS, 14: states written out; words for walks.
-/
import Derived.Test.YtfllndodnhmhkaaAb13
namespace Go.Ab
set_option linter.unusedSimpArgs false
set_option linter.unusedVariables false

def lk {α : Type} : List (Nat × α) → Nat → Option α
  | [], _ => none
  | (k, d) :: l, t => if t = k then some d else lk l t

/-- A state, written out. -/
def mkS (n : Nat) (sl : List (Nat × D)) (hp : List (Nat × AObj)) : St := { n := n, slots := lk sl, heap := lk hp }

theorem mkS_slots (n : Nat) (sl : List (Nat × D)) (hp : List (Nat × AObj)) : (mkS n sl hp).slots = lk sl := rfl
theorem mkS_heap (n : Nat) (sl : List (Nat × D)) (hp : List (Nat × AObj)) : (mkS n sl hp).heap = lk hp := rfl
theorem mkS_n (n : Nat) (sl : List (Nat × D)) (hp : List (Nat × AObj)) : (mkS n sl hp).n = n := rfl

theorem lk_mem {α : Type} : ∀ {l : List (Nat × α)} {t : Nat} {d : α}, lk l t = some d → (t, d) ∈ l
  | [], t, d, h => by simp [lk] at h
  | (k, e) :: l, t, d, h => by
    simp only [lk] at h
    split at h
    · rename_i q; subst q; simp only [Option.some.injEq] at h; subst h; simp
    · exact List.mem_cons_of_mem _ (lk_mem h)

/-- What is written out is known. -/
def Knows (st : St) : List (Nat × D) → Prop
  | [] => True
  | (t, d) :: l => st.slots t = some d ∧ Knows st l
def KnowsH (st : St) : List (Nat × AObj) → Prop
  | [] => True
  | (t, d) :: l => st.heap t = some d ∧ KnowsH st l

theorem Knows.get {st : St} : ∀ {l : List (Nat × D)}, Knows st l → ∀ t d, (t, d) ∈ l → st.slots t = some d
  | [], _, t, d, h => by simp at h
  | (k, e) :: l, hk, t, d, h => by
    rcases List.mem_cons.1 h with q | q
    · cases q; exact hk.1
    · exact Knows.get hk.2 t d q
theorem KnowsH.get {st : St} : ∀ {l : List (Nat × AObj)}, KnowsH st l → ∀ t d, (t, d) ∈ l → st.heap t = some d
  | [], _, t, d, h => by simp at h
  | (k, e) :: l, hk, t, d, h => by
    rcases List.mem_cons.1 h with q | q
    · cases q; exact hk.1
    · exact KnowsH.get hk.2 t d q

theorem mkS_le {n : Nat} {sl : List (Nat × D)} {hp : List (Nat × AObj)} {st : St} (hn : n = st.n) (hs : Knows st sl) (hh : KnowsH st hp) : (mkS n sl hp).le st :=
  ⟨hn, fun t d h => hs.get t d (lk_mem h), fun t d h => hh.get t d (lk_mem h)⟩

mutual
theorem D.ren_none {σ : Nat → Nat} : ∀ {d : D}, (d.all fun _ => false) = true → d.ren σ = d
  | .v _, _ => rfl
  | .agg cs, h => by simp only [D.ren, D.all] at *; rw [D.renL_none h]
  | .tup cs, h => by simp only [D.ren, D.all] at *; rw [D.renL_none h]
  | .sl _ _, _ => rfl
  | .ref _ _, _ => rfl
  | .own _ _ _, h => by simp [D.all] at h
  | .ptr _ _ _, h => by simp [D.all] at h
  | .fn _ _ cs, h => by simp only [D.ren, D.all] at *; rw [D.renL_none h]
  | .junk, _ => rfl
theorem D.renL_none {σ : Nat → Nat} : ∀ {cs : List D}, D.allL (fun _ => false) cs = true → D.renL σ cs = cs
  | [], _ => rfl
  | c :: cs, h => by
    simp only [D.allL, Bool.and_eq_true] at h
    simp only [D.renL, D.ren_none h.1, D.renL_none h.2]
end

section
variable {P : Program} {E : Ent} {st : St} {tt : TypeId → Option TI} {Q : Exit → St → Prop}

theorem arr0_isEmpty {α : Type _} : (#[] : Array α).isEmpty = true := rfl
theorem arr1_isEmpty {α : Type _} (a : α) (l : List α) : (List.toArray (a :: l)).isEmpty = false := rfl

/-- A region; its new objects' ids come of its number. -/
theorem awp_reg (ht : TTok P tt) {rid : Nat} {ops : Array Oper} (h : aops P tt ops (fun st' => Q .normal st') (rid * 1000 + 1000) ops.toList st) : AWP P E (.region rid ops false) Q st :=
  awp_region ht _ h

/-- At a point the state is written out anew. -/
theorem awp_at {c : Code} (n : Nat) (sl : List (Nat × D)) (hp : List (Nat × AObj)) (hn : n = st.n) (hs : Knows st sl) (hh : KnowsH st hp) (h : AWP P E c Q (mkS n sl hp)) : AWP P E c Q st :=
  awp_le h (mkS_le hn hs hh)

theorem callVC_scal {f : FuncId} {args ds : List D} {ids : List Nat} {p : Prop} {nid : Nat} {K : St → D → Prop} {r : D} (hf : FnOk P f) (hc : Contract P f ds r []) (hs : r.scal = true) (hk : K st r) (hp : p := by first | with_reducible trivial | omega) : CallVC P f args (some (ids, p, ds)) st nid K :=
  ⟨hf, .inl ⟨_, _, _, rfl, hp, .inr (.inl ⟨r, hc, hs, hk⟩)⟩⟩
theorem callVC_mk {f : FuncId} {args ds : List D} {ids : List Nat} {p : Prop} {nid : Nat} {K : St → D → Prop} {r : D} {objs : List AObj} (hf : FnOk P f) (hc : Contract P f ds r objs) (hs : objsOk objs 0 = true) (hk : K ((st.freeze ids).adoptL nid objs 0) (r.ren (nid + ·))) (hp : p := by first | with_reducible trivial | omega) : CallVC P f args (some (ids, p, ds)) st nid K :=
  ⟨hf, .inl ⟨_, _, _, rfl, hp, .inl ⟨r, objs, hc, hs, hk⟩⟩⟩
/-- .. of which nothing is kept: what is handed in may be written again. -/
theorem callVC_own {f : FuncId} {args ds : List D} {ids : List Nat} {p : Prop} {nid : Nat} {K : St → D → Prop} {r : D} {objs : List AObj} (hf : FnOk P f) (hc : Contract P f ds r objs) (hs : objsOk objs 0 = true) (h1 : r.noI = true) (h2 : objs.all AObj.noI = true) (hk : K (st.adoptL nid objs 0) (r.ren (nid + ·))) (hp : p := by first | with_reducible trivial | omega) : CallVC P f args (some (ids, p, ds)) st nid K :=
  ⟨hf, .inl ⟨_, _, _, rfl, hp, .inr (.inr ⟨r, objs, hc, hs, h1, h2, hk⟩)⟩⟩
/-- A call that is handed objects. -/
theorem callVC_M (gs : List Nat) {f : FuncId} {args ds : List D} {pr : PurR (List D)} {nid : Nat} {K : St → D → Prop} {ids : List Nat} {p : Prop} {r : D} {ins : List AObj} {outs : List (Option AObj)} (hf : FnOk P f) (hc : ContractM P f ins ds r outs)
    (hpur : purL (purM st.heap gs) args = some (ids, p, D.renL (fun j => gs.getD j 0) ds)) (hins : InsAt st.heap gs ins 0) (hk : K ((st.freeze ids).callM gs nid ins.length outs) (r.ren (sigM gs nid ins.length)))
    (hds : D.allL (fun j => decide (j < ins.length)) ds = true := by rfl) (hgs : gs.length = ins.length := by rfl) (hok : insOk ins = true := by rfl) (hlen : ins.length ≤ outs.length := by simp) (hnd : gs.Nodup := by decide) (hdis : (ids.all fun id => !gs.contains id) = true := by rfl)
    (hnid : ((List.range outs.length).all fun j => !gs.contains (nid + j)) = true := by rfl) (hp : p := by first | with_reducible trivial | omega) : CallVC P f args pr st nid K :=
  ⟨hf, .inr ⟨gs, ins, ds, r, outs, ids, p, hpur, hp, hds, hgs, hnd, fun id hi hg => by
    have := List.all_eq_true.1 hdis id hi
    simp at this; exact this hg, hins, hok, fun j hj hg => by
    have := List.all_eq_true.1 hnid j (by simpa using hj)
    simp at this; exact this hg, hlen, hc, hk⟩⟩

theorem endsM (gs : List Nat) {k : Nat} {rs : List Tmp} {r : D} {outs : List (Option AObj)} {e : Exit} (he : e = .normal ∨ e = .ret) (hres : st.result rs = some (r.ren fun j => gs.getD j 0)) (hat : OutsAt st k gs outs 0)
    (hr : (r.all fun k => liveB outs k) = true := by rfl) (ho : outsOk outs outs = true := by rfl) (hnd : (liveIds gs outs 0).Nodup := by simp [liveIds]) : ∃ gs, EndsM k rs r outs gs e st := ⟨gs, he, hr, ho, hnd, hres, hat⟩

/-- A nil slice in a slot is an empty object of one's own. -/
def St.toOwn (st : St) (t id sz : Nat) : St := { (st.bind id { sz := sz, rows := [] }) with slots := upd (st.bind id { sz := sz, rows := [] }).slots t (.own id 0 0) }

theorem awp_own_nil {c : Code} (t id sz : Nat) (h : st.slots t = some (.sl true [])) (hsz : 0 < sz) (hc : AWP P E c Q (st.toOwn t id sz)) : AWP P E c Q st := by
  refine fun a w hR => hc a w ?_
  obtain ⟨ρ, I, hrb⟩ := hR
  have hl : LaidObj I ρ w { sz := sz, rows := [] } ⟨none, 0, 0, sz⟩ := ⟨rfl, hsz, by simp, by simp, .inl ⟨rfl, rfl⟩⟩
  have h' := hrb.adopt (id := id) hl (fun b hb => by cases hb) (fun b hb => by cases hb)
  obtain ⟨ht, hrep⟩ := hrb.slots t _ h
  refine ⟨_, I, ⟨h'.size, h'.defers, fun u d hd => ?_, h'.mem, h'.i0, h'.i1, h'.ext, h'.fresh, h'.pins⟩⟩
  simp only [St.toOwn, upd] at hd
  split at hd
  · rename_i e; subst e
    simp only [Option.some.injEq] at hd
    subst hd
    refine ⟨ht, ?_⟩
    generalize a.tmps.getD u undef = v at hrep
    cases hrep with
    | nil _ _ ad cap hf =>
      have := hf rfl
      subst this
      have := Rep.own (I := I) (updL ρ id ⟨none, 0, 0, sz⟩) id 0 0 ⟨none, 0, 0, sz⟩ ad updL_eq (by simp) (.inl rfl)
      simpa using this
    | sl _ _ _ b o cap sz' c hI hs hc hcap hf h1 hh =>
      have := hf rfl
      simp at this
      subst this
      have := Rep.own (I := I) (updL ρ id ⟨none, 0, 0, sz⟩) id 0 0 ⟨none, 0, 0, sz⟩ (some ⟨b, o, none⟩) updL_eq (by simp) (.inl rfl)
      simpa using this
  · exact h'.slots u d hd

/-- The end of a function that makes nothing for its caller. -/
theorem ends_plain {rs : List Tmp} {r : D} {e : Exit} (he : e = .normal ∨ e = .ret) (hr : (r.all fun _ => false) = true) (hres : st.result rs = some r) : ∃ gs, Ends rs r [] gs e st := by
  refine ⟨[], he, rfl, List.nodup_nil, D.all_mono (fun _ h => by cases h) hr, by simp, ?_, by simp⟩
  rw [hres, D.ren_none hr]

/-- The end of a function that hands over one array. -/
theorem ends_own {rs : List Tmp} {o : AObj} {g off n : Nat} {e : Exit} (he : e = .normal ∨ e = .ret) (hres : st.result rs = some (.own g off n)) (hh : st.heap g = some o) (hf : o.flat = true) : ∃ gs, Ends rs (.own 0 off n) [o] gs e st := by
  refine ⟨[g], he, rfl, by simp, by simp [D.all], by simp [hf], by simpa [D.ren] using hres, fun j o' ho => ?_⟩
  cases j with
  | zero =>
    simp at ho; subst ho
    have : o.ren (fun j => [g].getD j 0) = o := by simp [AObj.ren, hf]
    rw [this]; simpa using hh
  | succ j => simp at ho
/-- .. and a word beside it. -/
theorem ends_own2 {rs : List Tmp} {o : AObj} {g off n : Nat} {d : D} {e : Exit} (he : e = .normal ∨ e = .ret) (hd : (d.all fun _ => false) = true) (hres : st.result rs = some (.tup [.own g off n, d])) (hh : st.heap g = some o) (hf : o.flat = true) : ∃ gs, Ends rs (.tup [.own 0 off n, d]) [o] gs e st := by
  refine ⟨[g], he, rfl, by simp, ?_, by simp [hf], ?_, fun j o' ho => ?_⟩
  · simp only [D.all, D.allL, Bool.and_true]
    simp
    exact D.all_mono (fun _ h => by cases h) hd
  · simp only [D.ren, D.renL, D.ren_none hd]; simpa using hres
  cases j with
  | zero =>
    simp at ho; subst ho
    have : o.ren (fun j => [g].getD j 0) = o := by simp [AObj.ren, hf]
    rw [this]; simpa using hh
  | succ j => simp at ho
end
end Go.Ab
