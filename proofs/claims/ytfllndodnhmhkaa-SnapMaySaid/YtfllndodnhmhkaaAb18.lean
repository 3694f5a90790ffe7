/-
  ABSTRACT DATA FOR WALKS, 18: regions that draw their order and write, 2.
-/
import Derived.Test.YtfllndodnhmhkaaAb17
namespace Go.Ab
set_option linter.unusedSimpArgs false
set_option linter.unusedVariables false

section
variable {P : Program} {E : Ent} {st : St} {a : Act} {w : World} {ρ : Locs} {I : Imm} {tt : TypeId → Option TI} {ops : Array Oper}

theorem fits_agree {s s' : St} {dst : Option Tmp} (hn : s'.n = s.n) : s'.fits dst = s.fits dst := by
  cases dst <;> simp [St.fits, hn]

theorem want_agreeE {o : Oper} {s s' : St} (ha : Agree (readsE ops o) s s') : s'.want ops o = s.want ops o := want_agree (reads_sub ha)

theorem exec_uni (ht : TTok P tt) {k id : Nat} {o : Oper} {s s1 : St} {p : Prop} {d : D} (ho : ops[k]? = some o) (hw : s.want ops o = some true) (hv : exec1 tt id s o.op = some (p, s1, d)) (hp : p) (hf : s1.fits o.dst = true) :
    ∃ K h, s1.put o.dst d = app s K h o.dst d ∧ Uni P E ops k o s K h d := by
  have key : ∃ K h, ∀ s', Agree (readsE ops o) s s' → exec1 tt id s' o.op = some (p, { s' with slots := killsS K s'.slots, heap := h }, d) := by
    cases hval : val tt s o.op with
    | some q =>
      obtain ⟨p', d'⟩ := q
      simp only [exec1, hval, Option.some.injEq, Prod.mk.injEq] at hv
      obtain ⟨rfl, rfl, rfl⟩ := hv
      refine ⟨[], s.heap, fun s' ha => ?_⟩
      have hr : Agree ((opnds o.op).flatMap tmpOf) s s' := (reads_sub ha).sub fun t ht => by simp only [readsOf, List.mem_append]; exact .inl ht
      simp only [exec1, val_agree hr, hval, killsS, ← ha.heap]
    | none =>
      simp only [exec1, hval] at hv
      obtain ⟨K, h, hK⟩ := hop_agree hv
      refine ⟨K, h, fun s' ha => ?_⟩
      have hr : Agree ((opnds o.op).flatMap tmpOf) s s' := (reads_sub ha).sub fun t ht => by simp only [readsOf, List.mem_append]; exact .inl ht
      simp only [exec1, val_agree hr, hval]
      exact hK s' (reads_opnds ha)
  obtain ⟨K, h, hK⟩ := key
  have hs := hK s Agree.rfl'
  rw [hv] at hs
  simp only [Option.some.injEq, Prod.mk.injEq, true_and, and_true] at hs
  refine ⟨K, h, by rw [hs]; rfl, fun s' ha rest Q a w hR hrest => ?_⟩
  obtain ⟨ρ, I, hrb⟩ := hR
  simp only [wpOps, ho]
  rw [hrb.want (by rw [want_agreeE ha]; exact hw)]
  simp only [if_true]
  left
  unfold Oper.wp
  obtain ⟨nx, v, w', r1, r2, ρ', J, r3, r4⟩ := hrb.exec1 ht (hK s' ha) hp
  have hf' : ({ s' with slots := killsS K s'.slots, heap := h } : St).fits o.dst = true := by
    rw [← hf]; exact fits_agree (by rw [hs]; exact ha.n)
  have hnext := hrest (a.put o.dst v) w' ⟨ρ', J, r3.put hf' r4⟩
  rw [r1]
  rcases r2 with rfl | ⟨rfl, rfl⟩
  · exact hnext
  · exact hnext

theorem callOf_agree {s s' : St} {o : Op} (ha : Agree ((opndsE o).flatMap tmpOf) s s') : s'.callOf o = s.callOf o := by
  cases o <;> try rfl
  case call c =>
    simp only [St.callOf]
    have eL : s'.evL c.args.toList = s.evL c.args.toList := evL_agree (ha.sub fun t ht => by
      obtain ⟨x, h1, h2⟩ := List.mem_flatMap.1 ht
      exact List.mem_flatMap.2 ⟨x, by simp only [opndsE, List.mem_append]; exact .inr h1, h2⟩)
    cases hc : c.callee with
    | value fo =>
      have e1 : s'.ev fo = s.ev fo := ev_agree (ha.sub fun t ht => List.mem_flatMap.2 ⟨fo, by simp [opndsE, hc, calleeOf], ht⟩)
      simp only [e1, eL]
    | _ => rfl

theorem adoptL_form (nid : Nat) : ∀ (os : List AObj) (j : Nat) (h0 : Nat → Option AObj), ∃ K h, ∀ s : St, s.heap = h0 → s.adoptL nid os j = { s with slots := killsS K s.slots, heap := h }
  | [], j, h0 => ⟨[], h0, fun s hs => by subst hs; rfl⟩
  | o :: os, j, h0 => by
    obtain ⟨K, h, hk⟩ := adoptL_form nid os (j + 1) h0
    refine ⟨(nid + j) :: K, upd (killH (nid + j) h) (nid + j) ((o.ren (nid + ·)).kill (nid + j)), fun s hs => ?_⟩
    simp only [St.adoptL, hk s hs, St.bind, killsS]

theorem call_uni {k id : Nat} {o : Oper} {s : St} {f : FuncId} {args : List D} {Kont : St → D → Prop} (ho : ops[k]? = some o) (hw : s.want ops o = some true) (hc : s.callOf o.op = some (f, args)) (hvc : CallVC P f args (purL (pur s.heap 4) args) s id Kont)
    (hfit : ∀ st1 d, Kont st1 d → st1.fits o.dst = true) : ∃ K h d, Kont { s with slots := killsS K s.slots, heap := h } d ∧ Uni P E ops k o s K h d := by
  obtain ⟨hfn, hvc⟩ := hvc
  have base : ∀ (K : List Nat) (h : Nat → Option AObj) (d : D), Kont { s with slots := killsS K s.slots, heap := h } d →
      (∀ (s' : St) (a : Act) (w : World) (ρ : Locs) (I : Imm) (vs : List Value), Agree (readsE ops o) s s' → RB E s' a w ρ I → RepL I ρ args vs → Calls P f vs.toArray w fun e w' => ∃ v, e = .returned v ∧ Did E { s' with slots := killsS K s'.slots, heap := h } a d v w') → Uni P E ops k o s K h d := by
    intro K h d hk hcall s' ha rest Q a w ⟨ρ, I, hrb⟩ hrest
    simp only [wpOps, ho]
    rw [hrb.want (by rw [want_agreeE ha]; exact hw)]
    simp only [if_true]
    left
    unfold Oper.wp
    obtain ⟨vs, r1, r2⟩ := hrb.callOf (by rw [callOf_agree (reads_opnds ha)]; exact hc) hfn
    rw [r1, Oper.upon_enter]
    refine (hcall s' a w ρ I vs ha hrb r2).mono fun e w' ⟨v, he, ρ', J, d1, d2⟩ => ?_
    subst he
    have hf := hfit _ _ hk
    have hf' : ({ s' with slots := killsS K s'.slots, heap := h } : St).fits o.dst = true := by
      rw [← hf]; exact fits_agree ha.n
    exact hrest _ _ ⟨ρ', J, d1.put hf' d2⟩
  rcases hvc with ⟨ids, p, ds, hpur, hp, ⟨r, objs, c1, c2, c3⟩ | ⟨r, c1, c2, c3⟩ | ⟨r, objs, c1, c2, c4, c5, c3⟩⟩ | ⟨gs, ins, ds, r, outs, ids, p, q1, q2, q3, q4, q5, q6, q7, q8, q9, q10, q11, c3⟩
  · obtain ⟨K, h, hk⟩ := adoptL_form id objs 0 (s.freeze ids).heap
    refine ⟨K, h, r.ren (id + ·), ?_, base K h _ ?_ ?_⟩
    · have := hk (s.freeze ids) rfl; rw [this] at c3; exact c3
    · have := hk (s.freeze ids) rfl; rw [this] at c3; exact c3
    · intro s' a w ρ I vs ha hrb hv
      have e := hk (s'.freeze ids) (by simp only [St.freeze, ha.heap])
      have := hrb.callPure id (by rw [ha.heap]; exact hpur) hp hv c1 c2
      rw [e] at this
      exact this
  · refine ⟨[], s.heap, r, c3, base [] s.heap r c3 ?_⟩
    intro s' a w ρ I vs ha hrb hv
    have := hrb.callScal (by rw [ha.heap]; exact hpur) hp hv c1 c2
    have e : ({ s' with slots := killsS [] s'.slots, heap := s.heap } : St) = s' := by rw [← ha.heap]; rfl
    rw [e]; exact this
  · obtain ⟨K, h, hk⟩ := adoptL_form id objs 0 s.heap
    refine ⟨K, h, r.ren (id + ·), ?_, base K h _ ?_ ?_⟩
    · have := hk s rfl; rw [this] at c3; exact c3
    · have := hk s rfl; rw [this] at c3; exact c3
    · intro s' a w ρ I vs ha hrb hv
      have e := hk s' ha.heap
      have := hrb.callOwn id (by rw [ha.heap]; exact hpur) hp hv c1 c2 c4 c5
      rw [e] at this
      exact this
  · refine ⟨struck gs id ins.length outs 0, adoptM (sigM gs id ins.length) ins.length (s.freeze ids).heap (killsH (struck gs id ins.length outs 0) (s.freeze ids).heap) outs 0, _, c3, base _ _ _ c3 ?_⟩
    intro s' a w ρ I vs ha hrb hv
    have hfz : (s'.freeze ids).heap = (s.freeze ids).heap := by simp only [St.freeze, ha.heap]
    have := hrb.callM id (by rw [ha.heap]; exact q1) q2 hv rfl q3 q4 q5 q6 (by rw [ha.heap]; exact q7) q8 q9 q10 q11
    simp only [St.callM, hfz] at this
    exact this

/-! ### runs -/

def dstNot (l : List Tmp) (dst : Option Tmp) : Bool := match dst with
  | some t => !l.contains t
  | none => true
def dstNe (a b : Option Tmp) : Bool := match a, b with
  | some t, some u => t != u
  | _, _ => true

theorem dstNot_of {l : List Tmp} {dst : Option Tmp} (h : dstNot l dst = true) : ∀ t, dst = some t → t ∉ l := by
  intro t e
  subst e
  simpa [dstNot] using h
theorem dstNe_of {a b : Option Tmp} (h : dstNe a b = true) : ∀ t, a = some t → b ≠ some t := by
  intro t e e2
  subst e e2
  simp [dstNe] at h

/-- Looked at again behind an effect: the same. -/
def StabU (P : Program) (E : Ent) (ops : Array Oper) (x : Nat) (s1 : St) : Prop :=
  ∀ ox, ops[x]? = some ox → ∃ d, (∀ t, ox.dst = some t → s1.slots t = some d) ∧ Uni P E ops x ox s1 [] s1.heap d

inductive DRun (P : Program) (E : Ent) (ops : Array Oper) : List (Nat × Option (List Nat)) → St → St → Prop where
  | nil (s : St) : DRun P E ops [] s s
  | look (i : Nat) (l : List (Nat × Option (List Nat))) (o : Oper) (s : St) (d : D) (s2 : St) (ho : ops[i]? = some o) (u : Uni P E ops i o s [] s.heap d) (hs : DRun P E ops l (s.put o.dst d) s2) : DRun P E ops ((i, none) :: l) s s2
  | eff (i : Nat) (fr : List Nat) (l : List (Nat × Option (List Nat))) (o : Oper) (s : St) (K : List Nat) (h : Nat → Option AObj) (d : D) (s2 : St) (ho : ops[i]? = some o) (u : Uni P E ops i o s K h d) (hst : ∀ x ∈ fr, StabU P E ops x (app s K h o.dst d))
      (hs : DRun P E ops l (app s K h o.dst d) s2) : DRun P E ops ((i, some fr) :: l) s s2

def LRun (P : Program) (E : Ent) (ops : Array Oper) : List Nat → St → St → Prop
  | [], s, s2 => s2 = s
  | i :: l, s, s2 => ∃ o d, ops[i]? = some o ∧ Uni P E ops i o s [] s.heap d ∧ LRun P E ops l (s.put o.dst d) s2

theorem lrun_drun {post : List (Nat × Option (List Nat))} : ∀ {pre : List Nat} {s s1 s2 : St}, LRun P E ops pre s s1 → DRun P E ops post s1 s2 → DRun P E ops (pre.map (·, none) ++ post) s s2
  | [], s, s1, s2, h, h2 => by simp only [LRun] at h; subst h; exact h2
  | i :: pre, s, s1, s2, ⟨o, d, ho, u, hr⟩, h2 => .look i _ o s d s2 ho u (lrun_drun hr h2)

theorem drun_split {post : List (Nat × Option (List Nat))} : ∀ {pre : List Nat} {s s2 : St}, DRun P E ops (pre.map (·, none) ++ post) s s2 → ∃ s1, LRun P E ops pre s s1 ∧ DRun P E ops post s1 s2
  | [], s, s2, h => ⟨s, rfl, h⟩
  | i :: pre, s, s2, h => by
    simp only [List.map_cons, List.cons_append] at h
    cases h with
    | look _ _ o _ d _ ho u hs =>
      obtain ⟨s1, h1, h2⟩ := drun_split hs
      exact ⟨s1, ⟨o, d, ho, u, h1⟩, h2⟩

theorem lrun_heap : ∀ {pre : List Nat} {s s1 : St}, LRun P E ops pre s s1 → s1.heap = s.heap ∧ s1.n = s.n
  | [], s, s1, h => by simp only [LRun] at h; subst h; exact ⟨rfl, rfl⟩
  | i :: pre, s, s1, ⟨o, d, ho, u, hr⟩ => by
    have := lrun_heap hr
    rw [put_heap, put_n] at this
    exact this
theorem lrun_slot {t : Nat} : ∀ {pre : List Nat} {s s1 : St}, LRun P E ops pre s s1 → (∀ k ∈ pre, ∀ x, ops[k]? = some x → x.dst ≠ some t) → s1.slots t = s.slots t
  | [], s, s1, h, _ => by simp only [LRun] at h; subst h; rfl
  | i :: pre, s, s1, ⟨o, d, ho, u, hr⟩, hn => by
    rw [lrun_slot hr (fun k hk => hn k (by simp [hk]))]
    exact put_slot s o.dst d t fun v hv e => hn i (by simp) o ho (by rw [hv, e])

/-- No slot in common: one behind the other. -/
def apartE (ops : Array Oper) (x y : Oper) : Bool := dstNot (readsE ops y) x.dst && dstNot (readsE ops x) y.dst && dstNe x.dst y.dst

theorem agree_putE {s : St} {l : List Tmp} {dst : Option Tmp} {d : D} (h : dstNot l dst = true) : Agree l s (s.put dst d) := agree_put (dstNot_of h)

/-- A look goes ahead of looks. -/
theorem lrun_front {i : Nat} {o : Oper} {d : D} : ∀ {pre : List Nat} {s sp : St}, LRun P E ops pre s sp → Uni P E ops i o sp [] sp.heap d → (∀ k ∈ pre, ∀ x, ops[k]? = some x → apartE ops x o = true) →
    Uni P E ops i o s [] s.heap d ∧ LRun P E ops pre (s.put o.dst d) (sp.put o.dst d)
  | [], s, sp, h, u, _ => by simp only [LRun] at h; subst h; exact ⟨u, rfl⟩
  | k :: pre, s, sp, ⟨x, dx, hx, ux, hr⟩, u, hc => by
    obtain ⟨r1, r2⟩ := lrun_front hr u (fun k' hk' => hc k' (by simp [hk']))
    have h3 := hc k (by simp) x hx
    simp only [apartE, Bool.and_eq_true] at h3
    have e1 : Agree (readsE ops o) (s.put x.dst dx) s := (agree_putE h3.1.1).symm
    refine ⟨?_, x, dx, hx, ?_, ?_⟩
    · have := r1.agree e1; rwa [put_heap] at this
    · have := ux.agree (agree_putE (d := d) h3.1.2); rwa [put_heap]
    · rw [put_comm (dstNe_of h3.2)] at r2; exact r2

/-- An effect goes ahead of looks that are the same behind it. -/
theorem eff_front {i : Nat} {o : Oper} {K : List Nat} {h : Nat → Option AObj} {d : D} : ∀ {pre : List Nat} {s sp : St}, LRun P E ops pre s sp → Uni P E ops i o sp K h d → (∀ x ∈ pre, StabU P E ops x (app sp K h o.dst d)) →
    (∀ k ∈ pre, ∀ x, ops[k]? = some x → apartE ops x o = true ∧ dstNot (readsE ops x) x.dst = true) → pre.Pairwise (fun k1 k2 => ∀ x y, ops[k1]? = some x → ops[k2]? = some y → dstNot (readsE ops x) y.dst = true ∧ dstNe y.dst x.dst = true) →
    Uni P E ops i o s K h d ∧ LRun P E ops pre (app s K h o.dst d) (app sp K h o.dst d)
  | [], s, sp, hl, u, _, _, _ => by simp only [LRun] at hl; subst hl; exact ⟨u, rfl⟩
  | k :: pre, s, sp, ⟨x, dx, hx, ux, hr⟩, u, hst, hc, hp => by
    obtain ⟨r1, r2⟩ := eff_front hr u (fun y hy => hst y (by simp [hy])) (fun k' hk' => hc k' (by simp [hk'])) (List.pairwise_cons.1 hp).2
    obtain ⟨h3, h4⟩ := hc k (by simp) x hx
    simp only [apartE, Bool.and_eq_true] at h3
    have e1 : Agree (readsE ops o) (s.put x.dst dx) s := (agree_putE h3.1.1).symm
    have hpre : ∀ k' ∈ pre, ∀ y, ops[k']? = some y → dstNot (readsE ops x) y.dst = true ∧ dstNe y.dst x.dst = true := fun k' hk' y hy => (List.pairwise_cons.1 hp).1 k' hk' x y hx hy
    refine ⟨r1.agree e1, ?_⟩
    obtain ⟨dS, hdS, uS⟩ := hst k (by simp) x hx
    obtain ⟨q1, q2⟩ := lrun_heap r2
    have hag : Agree (readsE ops x) (app sp K h o.dst d) (app s K h o.dst d) := by
      refine ⟨?_, by rw [app_heap, app_heap], fun t ht => ?_⟩
      · rw [q2, app_n, app_n, put_n]
      · have n1 : ∀ v, o.dst = some v → t ≠ v := fun v hv e => dstNot_of h3.1.2 v hv (e ▸ ht)
        have n2 : ∀ v, x.dst = some v → t ≠ v := fun v hv e => dstNot_of h4 v hv (e ▸ ht)
        rw [lrun_slot r2 (fun k' hk' y hy e => dstNot_of (hpre k' hk' y hy).1 t e ht), app_slot _ _ _ _ _ _ n1, app_slot _ _ _ _ _ _ n1, put_slot _ _ _ _ n2]
    refine ⟨x, dS, hx, ?_, ?_⟩
    · have := uS.agree hag; rwa [app_heap] at this ⊢
    · have e2 : (app s K h o.dst d).put x.dst dS = app (s.put x.dst dx) K h o.dst d := by
        cases hxd : x.dst with
        | none => rfl
        | some t =>
          have hv := hdS t hxd
          rw [lrun_slot r2 (fun k' hk' y hy e => dstNe_of (hpre k' hk' y hy).2 t e hxd)] at hv
          have n1 : ∀ v, o.dst = some v → t ≠ v := fun v hv e => dstNe_of h3.2 t hxd (by rw [hv, e])
          rw [app_slot _ _ _ _ _ _ n1, hxd, put_at, Option.map_some, Option.some.injEq] at hv
          have : ∀ (s1 s2 : St), s1.n = s2.n → s1.heap = s2.heap → (∀ u, s1.slots u = s2.slots u) → s1 = s2 := by
            intro s1 s2 e1 e2 e3
            cases s1; cases s2
            simp only at e1 e2 e3
            subst e1 e2
            congr 1
            funext u; exact e3 u
          refine this _ _ ?_ ?_ ?_
          · rw [put_n, app_n, app_n, put_n]
          · rw [put_heap, app_heap, app_heap]
          · intro u
            by_cases hu : u = t
            · subst hu
              rw [put_at, app_slot _ _ _ _ _ _ n1, put_at, Option.map_some, hv]
            · rw [put_slot _ _ _ _ (fun v hv e => hu (e.trans (Option.some.inj hv).symm))]
              cases hod : o.dst with
              | none =>
                rw [app_slot _ _ _ _ _ _ (by simp), app_slot _ _ _ _ _ _ (by simp), put_slot _ _ _ _ (fun v hv e => hu (e.trans (Option.some.inj hv).symm))]
              | some v =>
                by_cases huv : u = v
                · subst huv
                  simp only [app, put_at]
                · rw [app_slot _ _ _ _ _ _ (fun z hz e => huv (e.trans (Option.some.inj hz).symm)), app_slot _ _ _ _ _ _ (fun z hz e => huv (e.trans (Option.some.inj hz).symm)), put_slot _ _ _ _ (fun v hv e => hu (e.trans (Option.some.inj hv).symm))]
      rw [e2]; exact r2

end
end Go.Ab
