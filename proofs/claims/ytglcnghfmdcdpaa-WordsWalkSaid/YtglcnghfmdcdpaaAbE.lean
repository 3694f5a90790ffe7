import Derived.Test.YtglcnghfmdcdpaaAbD
namespace Go.Ab
set_option linter.unusedSimpArgs false
set_option linter.unusedVariables false
def calleeOf : Callee → List Operand
  | .value f => [f]
  | _ => []
def opndsE : Op → List Operand
  | .box _ x => [x]
  | .buildSlice _ _ ps => ps.toList.map (·.2)
  | .makeSlice _ l c => [l, c]
  | .store _ ad x => [ad, x]
  | .call c => calleeOf c.callee ++ c.args.toList
  | o => opnds o
def readsE (ops : Array Oper) (o : Oper) : List Tmp :=
  (opndsE o.op).flatMap tmpOf ++ (match o.guard with | some (j, _) => (((ops[j]?).bind (·.dst))).toList | none => [])
def killsD : List Nat → D → D
  | [], d => d
  | k :: K, d => D.kill k (killsD K d)
theorem killsS_at : ∀ (K : List Nat) (f : Nat → Option D) (t : Nat), killsS K f t = (f t).map (killsD K)
  | [], f, t => by cases h : f t <;> simp [killsS, killsD, h]
  | k :: K, f, t => by
    simp only [killsS, killS, killsS_at K f t]
    cases f t <;> simp [killsD]
def app (s : St) (K : List Nat) (h : Nat → Option AObj) (dst : Option Tmp) (d : D) : St := ({ s with slots := killsS K s.slots, heap := h } : St).put dst d
theorem app_look (s : St) (dst : Option Tmp) (d : D) : app s [] s.heap dst d = s.put dst d := rfl
theorem app_n (s : St) (K : List Nat) (h : Nat → Option AObj) (dst : Option Tmp) (d : D) : (app s K h dst d).n = s.n := by cases dst <;> rfl
theorem app_heap (s : St) (K : List Nat) (h : Nat → Option AObj) (dst : Option Tmp) (d : D) : (app s K h dst d).heap = h := by cases dst <;> rfl
theorem app_slot (s : St) (K : List Nat) (h : Nat → Option AObj) (dst : Option Tmp) (d : D) (t : Nat) (ht : ∀ u, dst = some u → t ≠ u) : (app s K h dst d).slots t = (s.slots t).map (killsD K) := by
  cases dst with
  | none => exact killsS_at K s.slots t
  | some u =>
    have := ht u rfl
    simp only [app, St.put, upd, this, if_false]
    exact killsS_at K s.slots t
theorem put_n (s : St) (dst : Option Tmp) (d : D) : (s.put dst d).n = s.n := by cases dst <;> rfl
theorem put_heap (s : St) (dst : Option Tmp) (d : D) : (s.put dst d).heap = s.heap := by cases dst <;> rfl
theorem put_slot (s : St) (dst : Option Tmp) (d : D) (t : Nat) (ht : ∀ u, dst = some u → t ≠ u) : (s.put dst d).slots t = s.slots t := by
  cases dst with
  | none => rfl
  | some u => simp [St.put, upd, ht u rfl]
theorem put_mp (s : St) (dst : Option Tmp) (d : D) : (s.put dst d).mp = s.mp := by cases dst <;> rfl
theorem app_mp (s : St) (K : List Nat) (h : Nat → Option AObj) (dst : Option Tmp) (d : D) : (app s K h dst d).mp = s.mp := by cases dst <;> rfl
theorem put_at (s : St) (t : Nat) (d : D) : (s.put (some t) d).slots t = some d := by simp [St.put, upd]
section
variable {P : Program} {E : Ent} {st : St} {a : Act} {w : World} {ρ : Locs} {I : Imm} {tt : TypeId → Option TI} {ops : Array Oper}
def AStep (P : Program) (E : Ent) (ops : Array Oper) (k : Nat) (s s1 : St) : Prop :=
  ∀ (rest : List Nat) (Q : Exit → Act → World → Prop) (a : Act) (w : World), R E s a w → (∀ a' w', R E s1 a' w' → wpOps P ops Q rest a' w') → wpOps P ops Q (k :: rest) a w
def Uni (P : Program) (E : Ent) (ops : Array Oper) (k : Nat) (o : Oper) (s : St) (K : List Nat) (h : Nat → Option AObj) (d : D) : Prop :=
  ∀ s', Agree (readsE ops o) s s' → AStep P E ops k s' (app s' K h o.dst d)
theorem Agree.rfl' {l : List Tmp} {s : St} : Agree l s s := ⟨rfl, rfl, fun _ _ => rfl⟩
theorem Agree.trans {l : List Tmp} {s s' s'' : St} (h : Agree l s s') (g : Agree l s' s'') : Agree l s s'' := ⟨g.n.trans h.n, g.heap.trans h.heap, fun t ht => (g.slots t ht).trans (h.slots t ht)⟩
theorem Uni.agree {k : Nat} {o : Oper} {s s0 : St} {K : List Nat} {h : Nat → Option AObj} {d : D} (u : Uni P E ops k o s K h d) (ha : Agree (readsE ops o) s s0) : Uni P E ops k o s0 K h d := fun s' hs => u s' (ha.trans hs)
theorem opnds_sub (o : Op) : ∀ x ∈ opnds o, x ∈ opndsE o := by
  intro x hx
  cases o <;> first | exact hx | (simp only [opnds, opndsE, List.not_mem_nil] at hx ⊢; done) | skip
  case call c => simp only [opnds, opndsE, List.mem_append] at hx ⊢; exact .inr hx
theorem reads_sub {o : Oper} {s s' : St} (h : Agree (readsE ops o) s s') : Agree (readsOf ops o) s s' := h.sub fun t ht => by
  simp only [readsOf, readsE, List.mem_append, List.mem_flatMap] at ht ⊢
  rcases ht with ⟨x, h1, h2⟩ | h1
  · exact .inl ⟨x, opnds_sub _ x h1, h2⟩
  · exact .inr h1
theorem reads_opnds {o : Oper} {s s' : St} (h : Agree (readsE ops o) s s') : Agree ((opndsE o.op).flatMap tmpOf) s s' := h.sub fun t ht => by
  simp only [readsE, List.mem_append]; exact .inl ht
theorem look_uni (ht : TTok P tt) {k : Nat} {o : Oper} {s : St} {p : Prop} {d : D} (ho : ops[k]? = some o) (hw : s.want ops o = some true) (hv : val tt s o.op = some (p, d)) (hp : p) (hf : s.fits o.dst = true) : Uni P E ops k o s [] s.heap d := by
  intro s' ha rest Q a w ⟨ρ, I, hrb⟩ hrest
  have ha2 := reads_sub ha
  have hr : Agree ((opnds o.op).flatMap tmpOf) s s' := ha2.sub fun t ht => by simp only [readsOf, List.mem_append]; exact .inl ht
  have hf' : s'.fits o.dst = true := by cases hd : o.dst <;> simp [St.fits, hd, ha.n] at hf ⊢; exact hf
  simp only [wpOps, ho]
  rw [hrb.want (by rw [want_agree ha2]; exact hw)]
  simp only [if_true]
  left
  obtain ⟨z, z1, z2⟩ := hrb.val ht (by rw [val_agree hr]; exact hv) hp
  unfold Oper.wp
  rw [z1]
  refine hrest _ _ ?_
  rw [← ha.heap, app_look]
  exact ⟨ρ, I, hrb.put hf' z2⟩
theorem skip_uni {k : Nat} {o : Oper} {s : St} (ho : ops[k]? = some o) (hw : s.want ops o = some false) (hf : s.fits o.dst = true) : Uni P E ops k o s [] s.heap (.v (.tuple #[])) := by
  intro s' ha rest Q a w ⟨ρ, I, hrb⟩ hrest
  have ha2 := reads_sub ha
  have hf' : s'.fits o.dst = true := by cases hd : o.dst <;> simp [St.fits, hd, ha.n] at hf ⊢; exact hf
  simp only [wpOps, ho]
  rw [hrb.want (by rw [want_agree ha2]; exact hw)]
  simp only [Bool.false_eq_true, if_false]
  refine hrest _ _ ?_
  rw [← ha.heap, app_look]
  exact ⟨ρ, I, hrb.put hf' (.v _ _)⟩
theorem hop_agree {id : Nat} {s : St} {o : Op} {p : Prop} {s1 : St} {d : D} (hv : hop tt id s o = some (p, s1, d)) :
    ∃ K h, ∀ s', Agree ((opndsE o).flatMap tmpOf) s s' → hop tt id s' o = some (p, { s' with slots := killsS K s'.slots, heap := h }, d) := by
  have e1 : ∀ s', Agree ((opndsE o).flatMap tmpOf) s s' → ∀ x : Operand, x ∈ opndsE o → s'.ev x = s.ev x := fun s' h x hx => ev_agree (h.sub fun t ht => List.mem_flatMap.2 ⟨x, hx, ht⟩)
  have eL : ∀ s', Agree ((opndsE o).flatMap tmpOf) s s' → ∀ xs : List Operand, (∀ x ∈ xs, x ∈ opndsE o) → s'.evL xs = s.evL xs := fun s' h xs hx => evL_agree (h.sub fun t ht => by
    obtain ⟨x, h1, h2⟩ := List.mem_flatMap.1 ht
    exact List.mem_flatMap.2 ⟨x, hx x h1, h2⟩)
  cases o <;> simp only [hop] at hv <;> try (cases hv; done)
  case binOp op T x y yt =>
    have hx : ∀ s', Agree ((opndsE (.binOp op T x y yt)).flatMap tmpOf) s s' → s'.ev x = s.ev x := fun s' ha => e1 s' ha x (by simp [opndsE, opnds])
    unfold hopNil at hv
    split at hv
    · rename_i he
      split at hv
      · rename_i e hT
        split at hv <;> simp only [Option.some.injEq, Prod.mk.injEq, reduceCtorEq] at hv
        · obtain ⟨rfl, hs1, rfl⟩ := hv
          refine ⟨[], s.heap, fun s' ha => ?_⟩
          simp only [hop, hx s' ha, he, hopNil, hT, killsS, ← ha.heap]
        · obtain ⟨rfl, hs1, rfl⟩ := hv
          refine ⟨[], s.heap, fun s' ha => ?_⟩
          simp only [hop, hx s' ha, he, hopNil, hT, killsS, ← ha.heap]
      · cases hv
    · cases hv
  case alloc T =>
    simp only [hopAlloc] at hv
    split at hv
    · rename_i ti hT
      simp only [Option.some.injEq, Prod.mk.injEq] at hv
      obtain ⟨rfl, hs1, rfl⟩ := hv
      refine ⟨[id], s1.heap, fun s' ha => ?_⟩
      subst hs1
      simp only [hop, hopAlloc, hT, St.bind, ha.heap, killsS]
    · cases hv
  case box T x =>
    split at hv
    · rename_i dx hx
      simp only [hopBox] at hv
      split at hv
      · rename_i ti hT
        simp only [Option.some.injEq, Prod.mk.injEq] at hv
        obtain ⟨rfl, hs1, rfl⟩ := hv
        refine ⟨[id], s1.heap, fun s' ha => ?_⟩
        subst hs1
        simp only [hop, e1 s' ha x (by simp [opndsE]), hx, hopBox, hT, St.bind, ha.heap, killsS]
      · cases hv
    · cases hv
  case buildSlice T len parts =>
    split at hv
    · rename_i ds hds
      simp only [hopBuildSlice] at hv
      split at hv
      · rename_i e he
        split at hv
        · rename_i ei ids p ds' hei hpur
          simp only [Option.some.injEq, Prod.mk.injEq] at hv
          obtain ⟨rfl, hs1, rfl⟩ := hv
          refine ⟨[id], s1.heap, fun s' ha => ?_⟩
          subst hs1
          simp only [hop, eL s' ha (parts.toList.map (·.2)) (by simp [opndsE]), hds, hopBuildSlice, he, hei, ha.heap, hpur, St.bind, St.freeze, killsS]
        · cases hv
      · cases hv
    · cases hv
  case makeSlice T l c =>
    split at hv
    · rename_i dl dc hl hc
      unfold hopMakeSlice at hv
      split at hv
      · split at hv
        · rename_i e he
          split at hv
          · rename_i ei hei
            simp only [Option.some.injEq, Prod.mk.injEq] at hv
            obtain ⟨rfl, hs1, rfl⟩ := hv
            refine ⟨[id], s1.heap, fun s' ha => ?_⟩
            subst hs1
            simp only [hop, e1 s' ha l (by simp [opndsE]), e1 s' ha c (by simp [opndsE]), hl, hc, hopMakeSlice, he, hei, St.bind, ha.heap, killsS]
          · cases hv
        · cases hv
      · cases hv
    · cases hv
  case store T ad x =>
    split at hv
    · rename_i da dx hda hdx
      unfold hopStore at hv
      split at hv
      · rename_i ti oid i k hT
        split at hv
        · rename_i o0 ho0
          split at hv
          · rename_i ids p d' hpur
            split at hv
            · rename_i o hof
              simp only [Option.some.injEq, Prod.mk.injEq] at hv
              obtain ⟨rfl, hs1, rfl⟩ := hv
              refine ⟨[], s1.heap, fun s' ha => ?_⟩
              subst hs1
              have hfz : (s'.freeze ids).heap = (s.freeze ids).heap := by simp only [St.freeze, ha.heap]
              simp only [hop, e1 s' ha ad (by simp [opndsE]), e1 s' ha x (by simp [opndsE]), hda, hdx, hopStore, hT, ha.heap, ho0, hpur, hfz, hof, killsS]
              rfl
            · cases hv
          · cases hv
        · cases hv
      · cases hv
    · cases hv
  case convert src dst x =>
    split at hv
    · rename_i dx hx
      unfold hopConv at hv
      split at hv
      · split at hv
        · rename_i e o hs ho
          split at hv
          · rename_i ei hei
            split at hv
            · rename_i hk
              simp only [Option.some.injEq, Prod.mk.injEq] at hv
              obtain ⟨rfl, hs1, rfl⟩ := hv
              refine ⟨[], s1.heap, fun s' ha => ?_⟩
              subst hs1
              simp only [hop, e1 s' ha x (by simp [opndsE, opnds]), hx, hopConv, hs, ha.heap, ho, hei, hk, killsS]
              rw [← ha.heap]
            · cases hv
          · cases hv
        · cases hv
      · rename_i hno
        unfold hopBytes at hv
        split at hv
        · split at hv
          · rename_i e hs hd
            split at hv
            · rename_i ei hei
              split at hv
              · rename_i hk
                simp only [Option.some.injEq, Prod.mk.injEq] at hv
                obtain ⟨rfl, hs1, rfl⟩ := hv
                refine ⟨[id], s1.heap, fun s' ha => ?_⟩
                subst hs1
                simp only [hop, e1 s' ha x (by simp [opndsE, opnds]), hx, hopConv, hopBytes, hs, hd, hei, hk, St.bind, ha.heap, killsS]
              · cases hv
            · cases hv
          · cases hv
        · cases hv
    · cases hv
  case call c =>
    obtain ⟨callee, args, argTypes⟩ := c
    simp only at hv
    split at hv
    · rename_i sx xx T X hargs htys
      split at hv
      · rename_i ds dx hds hdx
        unfold hopAppend at hv
        split at hv
        · rename_i e he
          split at hv
          · rename_i ei hei
            split at hv
            · rename_i p2 rows2 hsrc
              have hsrc' : ∀ s', Agree ((opndsE (.call ⟨.builtin .append, args, argTypes⟩)).flatMap tmpOf) s s' → srcD tt s' X ei dx (decide (id < 50000000)) = some (p2, rows2) := fun s' ha => by
                rw [← hsrc]
                unfold srcD
                simp only [ha.heap]
              split at hv
              · simp only [Option.some.injEq, Prod.mk.injEq] at hv
                obtain ⟨rfl, hs1, rfl⟩ := hv
                refine ⟨[id], s1.heap, fun s' ha => ?_⟩
                subst hs1
                simp only [hop, hargs, htys, e1 s' ha sx (by simp [opndsE, calleeOf, hargs]), e1 s' ha xx (by simp [opndsE, calleeOf, hargs]), hds, hdx, hopAppend, he, hei, hsrc' s' ha, St.bind, ha.heap, killsS]
              · rename_i oid off len
                split at hv
                · rename_i o ho
                  simp only [Option.some.injEq, Prod.mk.injEq] at hv
                  obtain ⟨rfl, hs1, rfl⟩ := hv
                  refine ⟨[oid], s1.heap, fun s' ha => ?_⟩
                  subst hs1
                  simp only [hop, hargs, htys, e1 s' ha sx (by simp [opndsE, calleeOf, hargs]), e1 s' ha xx (by simp [opndsE, calleeOf, hargs]), hds, hdx, hopAppend, he, hei, hsrc' s' ha, St.bind, ha.heap, ho, killsS]
                · cases hv
              · cases hv
            · cases hv
          · cases hv
        · cases hv
      · cases hv
    · rename_i sx xx T X hargs htys
      split at hv
      · rename_i ds dx hds hdx
        unfold hopCopy at hv
        split at hv
        · rename_i e he
          split at hv
          · rename_i ei hei hXi
            split at hv
            · rename_i p2 rows2 hsrc
              have hsrc' : ∀ s', Agree ((opndsE (.call ⟨.builtin .copy, args, argTypes⟩)).flatMap tmpOf) s s' → srcD tt s' X ei dx = some (p2, rows2) := fun s' ha => by
                rw [← hsrc]
                unfold srcD
                simp only [ha.heap]
              split at hv
              · split at hv
                · rename_i o ho
                  simp only [Option.some.injEq, Prod.mk.injEq] at hv
                  obtain ⟨rfl, hs1, rfl⟩ := hv
                  refine ⟨[], s1.heap, fun s' ha => ?_⟩
                  subst hs1
                  simp only [hop, hargs, htys, e1 s' ha sx (by simp [opndsE, calleeOf, hargs]), e1 s' ha xx (by simp [opndsE, calleeOf, hargs]), hds, hdx, hopCopy, he, hei, hXi, hsrc' s' ha, ha.heap, ho, killsS]
                · cases hv
              · cases hv
            · cases hv
          · cases hv
        · cases hv
      · cases hv
    · cases hv
end
end Go.Ab
namespace Go.Ab
set_option linter.unusedSimpArgs false
set_option linter.unusedVariables false
section
variable {P : Program} {E : Ent} {st : St} {a : Act} {w : World} {ρ : Locs} {I : Imm} {tt : TypeId → Option TI} {ops : Array Oper}
theorem fits_agree {s s' : St} {dst : Option Tmp} (hn : s'.n = s.n) : s'.fits dst = s.fits dst := by
  cases dst <;> simp [St.fits, hn]
theorem want_agreeE {o : Oper} {s s' : St} (ha : Agree (readsE ops o) s s') : s'.want ops o = s.want ops o := want_agree (reads_sub ha)
theorem exec_uni (ht : TTok P tt) {k id : Nat} {o : Oper} {s s1 : St} {p : Prop} {d : D} (ho : ops[k]? = some o) (hw : s.want ops o = some true) (hv : exec0 tt id s o.op = some (p, s1, d)) (hp : p) (hf : s1.fits o.dst = true) :
    ∃ K h, s1.put o.dst d = app s K h o.dst d ∧ Uni P E ops k o s K h d := by
  have key : ∃ K h, ∀ s', Agree (readsE ops o) s s' → exec0 tt id s' o.op = some (p, { s' with slots := killsS K s'.slots, heap := h }, d) := by
    cases hval : val tt s o.op with
    | some q =>
      obtain ⟨p', d'⟩ := q
      simp only [exec0, hval, Option.some.injEq, Prod.mk.injEq] at hv
      obtain ⟨rfl, rfl, rfl⟩ := hv
      refine ⟨[], s.heap, fun s' ha => ?_⟩
      have hr : Agree ((opnds o.op).flatMap tmpOf) s s' := (reads_sub ha).sub fun t ht => by simp only [readsOf, List.mem_append]; exact .inl ht
      simp only [exec0, val_agree hr, hval, killsS, ← ha.heap]
    | none =>
      simp only [exec0, hval] at hv
      obtain ⟨K, h, hK⟩ := hop_agree hv
      refine ⟨K, h, fun s' ha => ?_⟩
      have hr : Agree ((opnds o.op).flatMap tmpOf) s s' := (reads_sub ha).sub fun t ht => by simp only [readsOf, List.mem_append]; exact .inl ht
      simp only [exec0, val_agree hr, hval]
      exact hK s' (reads_opnds ha)
  obtain ⟨K, h, hK⟩ := key
  have hs := hK s Agree.rfl'
  rw [hv] at hs
  simp only [Option.some.injEq, Prod.mk.injEq, true_and, and_true] at hs
  refine ⟨K, h, by rw [hs]; rfl, fun s' ha rest Q a w hR hrest => ?_⟩
  obtain ⟨ρ, I, hrb⟩ := hR
  simp only [wpOps, ho]
  rw [hrb.want (by rw [want_agreeE ha]; exact hw)]
  simp only [if_true]
  left
  unfold Oper.wp
  obtain ⟨nx, v, w', r1, r2, ρ', J, r3, r4⟩ := hrb.exec0 ht (hK s' ha) hp
  have hf' : ({ s' with slots := killsS K s'.slots, heap := h } : St).fits o.dst = true := by
    rw [← hf]; exact fits_agree (by rw [hs]; exact ha.n)
  have hnext := hrest (a.put o.dst v) w' ⟨ρ', J, r3.put hf' r4⟩
  rw [r1]
  rcases r2 with rfl | ⟨rfl, rfl⟩
  · exact hnext
  · exact hnext
theorem callOf_agree {s s' : St} {o : Op} (ha : Agree ((opndsE o).flatMap tmpOf) s s') : s'.callOf o = s.callOf o := by
  cases o <;> try rfl
  case call c =>
    simp only [St.callOf]
    have eL : s'.evL c.args.toList = s.evL c.args.toList := evL_agree (ha.sub fun t ht => by
      obtain ⟨x, h1, h2⟩ := List.mem_flatMap.1 ht
      exact List.mem_flatMap.2 ⟨x, by simp only [opndsE, List.mem_append]; exact .inr h1, h2⟩)
    cases hc : c.callee with
    | value fo =>
      have e1 : s'.ev fo = s.ev fo := ev_agree (ha.sub fun t ht => List.mem_flatMap.2 ⟨fo, by simp [opndsE, hc, calleeOf], ht⟩)
      simp only [e1, eL]
    | _ => rfl
theorem adoptL_form (nid : Nat) : ∀ (os : List AObj) (j : Nat) (h0 : Nat → Option AObj), ∃ K h, ∀ s : St, s.heap = h0 → s.adoptL nid os j = { s with slots := killsS K s.slots, heap := h }
  | [], j, h0 => ⟨[], h0, fun s hs => by subst hs; rfl⟩
  | o :: os, j, h0 => by
    obtain ⟨K, h, hk⟩ := adoptL_form nid os (j + 1) h0
    refine ⟨(nid + j) :: K, upd (killH (nid + j) h) (nid + j) ((o.ren (nid + ·)).kill (nid + j)), fun s hs => ?_⟩
    simp only [St.adoptL, hk s hs, St.bind, killsS]
theorem call_uni {k id : Nat} {o : Oper} {s : St} {f : FuncId} {args : List D} {Kont : St → D → Prop} (ho : ops[k]? = some o) (hw : s.want ops o = some true) (hc : s.callOf o.op = some (f, args)) (hvc : CallVC P f args (purL (pur s.heap 4) args) s id Kont)
    (hfit : ∀ st1 d, Kont st1 d → st1.fits o.dst = true) : ∃ K h d, Kont { s with slots := killsS K s.slots, heap := h } d ∧ Uni P E ops k o s K h d := by
  obtain ⟨hfn, hvc⟩ := hvc
  have base : ∀ (K : List Nat) (h : Nat → Option AObj) (d : D), Kont { s with slots := killsS K s.slots, heap := h } d →
      (∀ (s' : St) (a : Act) (w : World) (ρ : Locs) (I : Imm) (vs : List Value), Agree (readsE ops o) s s' → RB E s' a w ρ I → RepL I ρ args vs → Calls P f vs.toArray w fun e w' => ∃ v, e = .returned v ∧ Did E { s' with slots := killsS K s'.slots, heap := h } a d v w') → Uni P E ops k o s K h d := by
    intro K h d hk hcall s' ha rest Q a w ⟨ρ, I, hrb⟩ hrest
    simp only [wpOps, ho]
    rw [hrb.want (by rw [want_agreeE ha]; exact hw)]
    simp only [if_true]
    left
    unfold Oper.wp
    obtain ⟨vs, r1, r2⟩ := hrb.callOf (by rw [callOf_agree (reads_opnds ha)]; exact hc) hfn
    rw [r1, Oper.upon_enter]
    refine (hcall s' a w ρ I vs ha hrb r2).mono fun e w' ⟨v, he, ρ', J, d1, d2⟩ => ?_
    subst he
    have hf := hfit _ _ hk
    have hf' : ({ s' with slots := killsS K s'.slots, heap := h } : St).fits o.dst = true := by
      rw [← hf]; exact fits_agree ha.n
    exact hrest _ _ ⟨ρ', J, d1.put hf' d2⟩
  rcases hvc with ⟨ids, p, ds, hpur, hp, ⟨r, objs, c1, c2, c3⟩ | ⟨r, c1, c2, c3⟩ | ⟨r, objs, c1, c2, c4, c5, c3⟩⟩ | ⟨gs, ins, ds, r, outs, ids, p, q1, q2, q3, q4, q5, q6, q7, q8, q9, q10, q11, c3⟩
  · obtain ⟨K, h, hk⟩ := adoptL_form id objs 0 (s.freeze ids).heap
    refine ⟨K, h, r.ren (id + ·), ?_, base K h _ ?_ ?_⟩
    · have := hk (s.freeze ids) rfl; rw [this] at c3; exact c3
    · have := hk (s.freeze ids) rfl; rw [this] at c3; exact c3
    · intro s' a w ρ I vs ha hrb hv
      have e := hk (s'.freeze ids) (by simp only [St.freeze, ha.heap])
      have := hrb.callPure id (by rw [ha.heap]; exact hpur) hp hv c1 c2
      rw [e] at this
      exact this
  · refine ⟨[], s.heap, r, c3, base [] s.heap r c3 ?_⟩
    intro s' a w ρ I vs ha hrb hv
    have := hrb.callScal (by rw [ha.heap]; exact hpur) hp hv c1 c2
    have e : ({ s' with slots := killsS [] s'.slots, heap := s.heap } : St) = s' := by rw [← ha.heap]; rfl
    rw [e]; exact this
  · obtain ⟨K, h, hk⟩ := adoptL_form id objs 0 s.heap
    refine ⟨K, h, r.ren (id + ·), ?_, base K h _ ?_ ?_⟩
    · have := hk s rfl; rw [this] at c3; exact c3
    · have := hk s rfl; rw [this] at c3; exact c3
    · intro s' a w ρ I vs ha hrb hv
      have e := hk s' ha.heap
      have := hrb.callOwn id (by rw [ha.heap]; exact hpur) hp hv c1 c2 c4 c5
      rw [e] at this
      exact this
  · refine ⟨struck gs id ins.length outs 0, adoptM (sigM gs id ins.length) ins.length (s.freeze ids).heap (killsH (struck gs id ins.length outs 0) (s.freeze ids).heap) outs 0, _, c3, base _ _ _ c3 ?_⟩
    intro s' a w ρ I vs ha hrb hv
    have hfz : (s'.freeze ids).heap = (s.freeze ids).heap := by simp only [St.freeze, ha.heap]
    have := hrb.callM id (by rw [ha.heap]; exact q1) q2 hv rfl q3 q4 q5 q6 (by rw [ha.heap]; exact q7) q8 q9 q10 q11
    simp only [St.callM, hfz] at this
    exact this
def dstNot (l : List Tmp) (dst : Option Tmp) : Bool := match dst with
  | some t => !l.contains t
  | none => true
def dstNe (a b : Option Tmp) : Bool := match a, b with
  | some t, some u => t != u
  | _, _ => true
theorem dstNot_of {l : List Tmp} {dst : Option Tmp} (h : dstNot l dst = true) : ∀ t, dst = some t → t ∉ l := by
  intro t e
  subst e
  simpa [dstNot] using h
theorem dstNe_of {a b : Option Tmp} (h : dstNe a b = true) : ∀ t, a = some t → b ≠ some t := by
  intro t e e2
  subst e e2
  simp [dstNe] at h
def StabU (P : Program) (E : Ent) (ops : Array Oper) (x : Nat) (s1 : St) : Prop :=
  ∀ ox, ops[x]? = some ox → ∃ d, (∀ t, ox.dst = some t → s1.slots t = some d) ∧ Uni P E ops x ox s1 [] s1.heap d
inductive DRun (P : Program) (E : Ent) (ops : Array Oper) : List (Nat × Option (List Nat)) → St → St → Prop where
  | nil (s : St) : DRun P E ops [] s s
  | look (i : Nat) (l : List (Nat × Option (List Nat))) (o : Oper) (s : St) (d : D) (s2 : St) (ho : ops[i]? = some o) (u : Uni P E ops i o s [] s.heap d) (hs : DRun P E ops l (s.put o.dst d) s2) : DRun P E ops ((i, none) :: l) s s2
  | eff (i : Nat) (fr : List Nat) (l : List (Nat × Option (List Nat))) (o : Oper) (s : St) (K : List Nat) (h : Nat → Option AObj) (d : D) (s2 : St) (ho : ops[i]? = some o) (u : Uni P E ops i o s K h d) (hst : ∀ x ∈ fr, StabU P E ops x (app s K h o.dst d))
      (hs : DRun P E ops l (app s K h o.dst d) s2) : DRun P E ops ((i, some fr) :: l) s s2
def LRun (P : Program) (E : Ent) (ops : Array Oper) : List Nat → St → St → Prop
  | [], s, s2 => s2 = s
  | i :: l, s, s2 => ∃ o d, ops[i]? = some o ∧ Uni P E ops i o s [] s.heap d ∧ LRun P E ops l (s.put o.dst d) s2
theorem lrun_drun {post : List (Nat × Option (List Nat))} : ∀ {pre : List Nat} {s s1 s2 : St}, LRun P E ops pre s s1 → DRun P E ops post s1 s2 → DRun P E ops (pre.map (·, none) ++ post) s s2
  | [], s, s1, s2, h, h2 => by simp only [LRun] at h; subst h; exact h2
  | i :: pre, s, s1, s2, ⟨o, d, ho, u, hr⟩, h2 => .look i _ o s d s2 ho u (lrun_drun hr h2)
theorem drun_split {post : List (Nat × Option (List Nat))} : ∀ {pre : List Nat} {s s2 : St}, DRun P E ops (pre.map (·, none) ++ post) s s2 → ∃ s1, LRun P E ops pre s s1 ∧ DRun P E ops post s1 s2
  | [], s, s2, h => ⟨s, rfl, h⟩
  | i :: pre, s, s2, h => by
    simp only [List.map_cons, List.cons_append] at h
    cases h with
    | look _ _ o _ d _ ho u hs =>
      obtain ⟨s1, h1, h2⟩ := drun_split hs
      exact ⟨s1, ⟨o, d, ho, u, h1⟩, h2⟩
theorem lrun_heap : ∀ {pre : List Nat} {s s1 : St}, LRun P E ops pre s s1 → s1.heap = s.heap ∧ s1.n = s.n
  | [], s, s1, h => by simp only [LRun] at h; subst h; exact ⟨rfl, rfl⟩
  | i :: pre, s, s1, ⟨o, d, ho, u, hr⟩ => by
    have := lrun_heap hr
    rw [put_heap, put_n] at this
    exact this
theorem lrun_slot {t : Nat} : ∀ {pre : List Nat} {s s1 : St}, LRun P E ops pre s s1 → (∀ k ∈ pre, ∀ x, ops[k]? = some x → x.dst ≠ some t) → s1.slots t = s.slots t
  | [], s, s1, h, _ => by simp only [LRun] at h; subst h; rfl
  | i :: pre, s, s1, ⟨o, d, ho, u, hr⟩, hn => by
    rw [lrun_slot hr (fun k hk => hn k (by simp [hk]))]
    exact put_slot s o.dst d t fun v hv e => hn i (by simp) o ho (by rw [hv, e])
def apartE (ops : Array Oper) (x y : Oper) : Bool := dstNot (readsE ops y) x.dst && dstNot (readsE ops x) y.dst && dstNe x.dst y.dst
theorem agree_putE {s : St} {l : List Tmp} {dst : Option Tmp} {d : D} (h : dstNot l dst = true) : Agree l s (s.put dst d) := agree_put (dstNot_of h)
theorem lrun_front {i : Nat} {o : Oper} {d : D} : ∀ {pre : List Nat} {s sp : St}, LRun P E ops pre s sp → Uni P E ops i o sp [] sp.heap d → (∀ k ∈ pre, ∀ x, ops[k]? = some x → apartE ops x o = true) →
    Uni P E ops i o s [] s.heap d ∧ LRun P E ops pre (s.put o.dst d) (sp.put o.dst d)
  | [], s, sp, h, u, _ => by simp only [LRun] at h; subst h; exact ⟨u, rfl⟩
  | k :: pre, s, sp, ⟨x, dx, hx, ux, hr⟩, u, hc => by
    obtain ⟨r1, r2⟩ := lrun_front hr u (fun k' hk' => hc k' (by simp [hk']))
    have h3 := hc k (by simp) x hx
    simp only [apartE, Bool.and_eq_true] at h3
    have e1 : Agree (readsE ops o) (s.put x.dst dx) s := (agree_putE h3.1.1).symm
    refine ⟨?_, x, dx, hx, ?_, ?_⟩
    · have := r1.agree e1; rwa [put_heap] at this
    · have := ux.agree (agree_putE (d := d) h3.1.2); rwa [put_heap]
    · rw [put_comm (dstNe_of h3.2)] at r2; exact r2
theorem eff_front {i : Nat} {o : Oper} {K : List Nat} {h : Nat → Option AObj} {d : D} : ∀ {pre : List Nat} {s sp : St}, LRun P E ops pre s sp → Uni P E ops i o sp K h d → (∀ x ∈ pre, StabU P E ops x (app sp K h o.dst d)) →
    (∀ k ∈ pre, ∀ x, ops[k]? = some x → apartE ops x o = true ∧ dstNot (readsE ops x) x.dst = true) → pre.Pairwise (fun k1 k2 => ∀ x y, ops[k1]? = some x → ops[k2]? = some y → dstNot (readsE ops x) y.dst = true ∧ dstNe y.dst x.dst = true) →
    Uni P E ops i o s K h d ∧ LRun P E ops pre (app s K h o.dst d) (app sp K h o.dst d)
  | [], s, sp, hl, u, _, _, _ => by simp only [LRun] at hl; subst hl; exact ⟨u, rfl⟩
  | k :: pre, s, sp, ⟨x, dx, hx, ux, hr⟩, u, hst, hc, hp => by
    obtain ⟨r1, r2⟩ := eff_front hr u (fun y hy => hst y (by simp [hy])) (fun k' hk' => hc k' (by simp [hk'])) (List.pairwise_cons.1 hp).2
    obtain ⟨h3, h4⟩ := hc k (by simp) x hx
    simp only [apartE, Bool.and_eq_true] at h3
    have e1 : Agree (readsE ops o) (s.put x.dst dx) s := (agree_putE h3.1.1).symm
    have hpre : ∀ k' ∈ pre, ∀ y, ops[k']? = some y → dstNot (readsE ops x) y.dst = true ∧ dstNe y.dst x.dst = true := fun k' hk' y hy => (List.pairwise_cons.1 hp).1 k' hk' x y hx hy
    refine ⟨r1.agree e1, ?_⟩
    obtain ⟨dS, hdS, uS⟩ := hst k (by simp) x hx
    obtain ⟨q1, q2⟩ := lrun_heap r2
    have hag : Agree (readsE ops x) (app sp K h o.dst d) (app s K h o.dst d) := by
      refine ⟨?_, by rw [app_heap, app_heap], fun t ht => ?_⟩
      · rw [q2, app_n, app_n, put_n]
      · have n1 : ∀ v, o.dst = some v → t ≠ v := fun v hv e => dstNot_of h3.1.2 v hv (e ▸ ht)
        have n2 : ∀ v, x.dst = some v → t ≠ v := fun v hv e => dstNot_of h4 v hv (e ▸ ht)
        rw [lrun_slot r2 (fun k' hk' y hy e => dstNot_of (hpre k' hk' y hy).1 t e ht), app_slot _ _ _ _ _ _ n1, app_slot _ _ _ _ _ _ n1, put_slot _ _ _ _ n2]
    refine ⟨x, dS, hx, ?_, ?_⟩
    · have := uS.agree hag; rwa [app_heap] at this ⊢
    · have e2 : (app s K h o.dst d).put x.dst dS = app (s.put x.dst dx) K h o.dst d := by
        cases hxd : x.dst with
        | none => rfl
        | some t =>
          have hv := hdS t hxd
          rw [lrun_slot r2 (fun k' hk' y hy e => dstNe_of (hpre k' hk' y hy).2 t e hxd)] at hv
          have n1 : ∀ v, o.dst = some v → t ≠ v := fun v hv e => dstNe_of h3.2 t hxd (by rw [hv, e])
          rw [app_slot _ _ _ _ _ _ n1, hxd, put_at, Option.map_some, Option.some.injEq] at hv
          have : ∀ (s1 s2 : St), s1.n = s2.n → s1.heap = s2.heap → s1.mp = s2.mp → (∀ u, s1.slots u = s2.slots u) → s1 = s2 := by
            intro s1 s2 e1 e2 e4 e3
            cases s1; cases s2
            simp only at e1 e2 e3 e4
            subst e1 e2 e4
            congr 1
            funext u; exact e3 u
          refine this _ _ ?_ ?_ ?_ ?_
          · rw [put_n, app_n, app_n, put_n]
          · rw [put_heap, app_heap, app_heap]
          · rw [put_mp, app_mp, app_mp, put_mp]
          · intro u
            by_cases hu : u = t
            · subst hu
              rw [put_at, app_slot _ _ _ _ _ _ n1, put_at, Option.map_some, hv]
            · rw [put_slot _ _ _ _ (fun v hv e => hu (e.trans (Option.some.inj hv).symm))]
              cases hod : o.dst with
              | none =>
                rw [app_slot _ _ _ _ _ _ (by simp), app_slot _ _ _ _ _ _ (by simp), put_slot _ _ _ _ (fun v hv e => hu (e.trans (Option.some.inj hv).symm))]
              | some v =>
                by_cases huv : u = v
                · subst huv
                  simp only [app, put_at]
                · rw [app_slot _ _ _ _ _ _ (fun z hz e => huv (e.trans (Option.some.inj hz).symm)), app_slot _ _ _ _ _ _ (fun z hz e => huv (e.trans (Option.some.inj hz).symm)), put_slot _ _ _ _ (fun v hv e => hu (e.trans (Option.some.inj hv).symm))]
      rw [e2]; exact r2
end
end Go.Ab
namespace Go.Ab
set_option linter.unusedSimpArgs false
set_option linter.unusedVariables false
abbrev Ord := List (Nat × Option (List Nat))
def ancRow (acc : List Nat) (o : Oper) : Nat := o.after.toList.foldl (fun m e => if Region.binds .any e = true then m ||| (1 <<< e.on) ||| acc.getD e.on 0 else m) 0
def ancsGo : List Oper → List Nat → List Nat
  | [], acc => acc
  | o :: l, acc => ancsGo l (acc ++ [ancRow acc o])
def anc (A : List Nat) (i k : Nat) : Bool := (A.getD i 0).testBit k
def Closed (ops : Array Oper) (done : Nat → Bool) : Prop := ∀ j o e, done j = true → ops[j]? = some o → e ∈ o.after → Region.binds .any e = true → done e.on = true
def Ready (ops : Array Oper) (done : Nat → Bool) (i : Nat) : Prop := ∀ o e, ops[i]? = some o → e ∈ o.after → Region.binds .any e = true → done e.on = true
theorem ancRow_bit {acc : List Nat} {k : Nat} : ∀ {es : List Edge} {m : Nat}, (es.foldl (fun m e => if Region.binds .any e = true then m ||| (1 <<< e.on) ||| acc.getD e.on 0 else m) m).testBit k = true →
    m.testBit k = true ∨ ∃ e ∈ es, Region.binds .any e = true ∧ (e.on = k ∨ (acc.getD e.on 0).testBit k = true)
  | [], m, h => .inl h
  | e :: es, m, h => by
    simp only [List.foldl_cons] at h
    rcases ancRow_bit h with h1 | ⟨e', q1, q2, q3⟩
    · split at h1
      · rename_i hb
        simp only [Nat.testBit_or, Bool.or_eq_true] at h1
        rcases h1 with (h1 | h1) | h1
        · exact .inl h1
        · refine .inr ⟨e, by simp, hb, .inl ?_⟩
          rw [Nat.one_shiftLeft, Nat.testBit_two_pow] at h1
          exact of_decide_eq_true h1
        · exact .inr ⟨e, by simp, hb, .inr h1⟩
      · exact .inl h1
    · exact .inr ⟨e', by simp [q1], q2, q3⟩
def AncOk (ops : Array Oper) (acc : List Nat) : Prop := ∀ i k, anc acc i k = true → ∀ done, Closed ops done → Ready ops done i → done k = true
theorem ancsGo_ok {ops : Array Oper} : ∀ (l : List Oper) (acc : List Nat), ops.toList.drop acc.length = l → AncOk ops acc → AncOk ops (ancsGo l acc)
  | [], acc, _, h => h
  | o :: l, acc, hl, h => by
    simp only [ancsGo]
    have ho : ops[acc.length]? = some o := by
      have := congrArg (·[0]?) hl
      simpa using this
    refine ancsGo_ok l _ (by rw [List.length_append, ← List.drop_drop, hl]; rfl) ?_
    intro i k hk done hc hr
    unfold anc at hk
    by_cases hi : i < acc.length
    · have e : (acc ++ [ancRow acc o]).getD i 0 = acc.getD i 0 := by simp [List.getD, List.getElem?_append_left hi]
      rw [e] at hk
      exact h i k hk done hc hr
    · by_cases hi2 : i = acc.length
      · subst hi2
        have e : (acc ++ [ancRow acc o]).getD acc.length 0 = ancRow acc o := by simp [List.getD]
        rw [e] at hk
        rcases ancRow_bit hk with q | ⟨e', q1, q2, q3⟩
        · simp at q
        · have hd := hr o e' ho (by simpa using q1) q2
          rcases q3 with q3 | q3
          · exact q3 ▸ hd
          · exact h e'.on k q3 done hc (fun o2 e2 g1 g2 g3 => hc e'.on o2 e2 hd g1 g2 g3)
      · have e : (acc ++ [ancRow acc o]).getD i 0 = 0 := by
          simp [List.getD, List.getElem?_eq_none (show (acc ++ [ancRow acc o]).length ≤ i by simp; omega)]
        rw [e] at hk; simp at hk
theorem ancs_ok (ops : Array Oper) : AncOk ops (ancsGo ops.toList []) := ancsGo_ok _ [] (by simp) (fun i k hk => by simp [anc] at hk)
def chkPair (ops : Array Oper) (A : List Nat) (x y : Nat × Option (List Nat)) (ox oy : Oper) : Bool :=
  anc A y.1 x.1 || (x.2.isNone && apartE ops ox oy && dstNot (readsE ops ox) ox.dst && (match y.2 with | some fr => fr.contains x.1 | none => true))
def chk2 (ops : Array Oper) (A : List Nat) (x : Nat × Option (List Nat)) : Ord → Bool
  | [] => true
  | y :: l => (match ops[x.1]?, ops[y.1]? with
    | some ox, some oy => chkPair ops A x y ox oy && ((dstNot (readsE ops ox) oy.dst && dstNe oy.dst ox.dst) || l.all fun z => z.2.isNone || anc A z.1 x.1 || anc A z.1 y.1)
    | _, _ => false) && chk2 ops A x l
def chk (ops : Array Oper) (A : List Nat) : Ord → Bool
  | [] => true
  | x :: l => chk2 ops A x l && chk ops A l
def topoB (m : Region.Mode) (ops : Array Oper) : List Nat → List Nat → Bool
  | _, [] => true
  | seen, i :: l => (match ops[i]? with
    | some o => o.after.toList.all fun e => !Region.binds m e || seen.contains e.on
    | none => false) && topoB m ops (i :: seen) l
def ordB (m : Region.Mode) (ops : Array Oper) (L : List Nat) : Bool := topoB m ops [] L && (List.range ops.size).all fun i => L.contains i
def drawB (ops : Array Oper) (C : Ord) (Ct Cg : List Nat) : Bool :=
  chk ops (ancsGo ops.toList []) C && ordB .any ops (C.map (·.1)) && decide ((C.map (·.1)).Nodup) && (C.all fun q => decide (q.1 < ops.size)) && (!Region.departs ops || (ordB .text ops Ct && ordB .gc ops Cg))
theorem chk2_filter {ops : Array Oper} {A : List Nat} {x : Nat × Option (List Nat)} {f : Nat × Option (List Nat) → Bool} : ∀ {l : Ord}, chk2 ops A x l = true → chk2 ops A x (l.filter f) = true
  | [], _ => rfl
  | y :: l, h => by
    simp only [chk2, Bool.and_eq_true] at h
    rw [List.filter_cons]
    split
    · simp only [chk2, Bool.and_eq_true]
      refine ⟨?_, chk2_filter h.2⟩
      have h1 := h.1
      split at h1
      · simp only [Bool.and_eq_true, Bool.or_eq_true] at h1 ⊢
        refine ⟨h1.1, h1.2.imp id fun q => ?_⟩
        rw [List.all_eq_true] at q ⊢
        exact fun z hz => q z (List.mem_filter.1 hz).1
      · cases h1
    · exact chk2_filter h.2
theorem chk_filter {ops : Array Oper} {A : List Nat} {f : Nat × Option (List Nat) → Bool} : ∀ {l : Ord}, chk ops A l = true → chk ops A (l.filter f) = true
  | [], _ => rfl
  | y :: l, h => by
    simp only [chk, Bool.and_eq_true] at h
    rw [List.filter_cons]
    split
    · simp only [chk, Bool.and_eq_true]
      exact ⟨chk2_filter h.1, chk_filter h.2⟩
    · exact chk_filter h.2
theorem chk2_pair {ops : Array Oper} {A : List Nat} {x y : Nat × Option (List Nat)} {l2 : Ord} : ∀ {l1 : Ord}, chk2 ops A x (l1 ++ y :: l2) = true →
    ∃ ox oy, ops[x.1]? = some ox ∧ ops[y.1]? = some oy ∧ chkPair ops A x y ox oy = true ∧ (((dstNot (readsE ops ox) oy.dst && dstNe oy.dst ox.dst) || l2.all fun z => z.2.isNone || anc A z.1 x.1 || anc A z.1 y.1) = true)
  | [], h => by
    simp only [List.nil_append, chk2, Bool.and_eq_true] at h
    have h1 := h.1
    split at h1
    · rename_i ox oy e1 e2
      simp only [Bool.and_eq_true] at h1
      exact ⟨ox, oy, e1, e2, h1.1, h1.2⟩
    · cases h1
  | z :: l1, h => by
    simp only [List.cons_append, chk2, Bool.and_eq_true] at h
    exact chk2_pair h.2
theorem chk_pair {ops : Array Oper} {A : List Nat} {x : Nat × Option (List Nat)} {L : Ord} : ∀ {l0 : Ord}, chk ops A (l0 ++ x :: L) = true → chk2 ops A x L = true
  | [], h => by simp only [List.nil_append, chk, Bool.and_eq_true] at h; exact h.1
  | z :: l0, h => by simp only [List.cons_append, chk, Bool.and_eq_true] at h; exact chk_pair h.2
def TopoSeq (ops : Array Oper) : (Nat → Bool) → List Nat → Prop
  | done, [] => ∀ i, i < ops.size → done i = true
  | done, i :: l => i < ops.size ∧ done i = false ∧ Ready ops done i ∧ TopoSeq ops (fun j => j == i || done j) l
theorem topo_next {m : Region.Mode} {ops : Array Oper} {done : Nat → Bool} : ∀ {L seen : List Nat}, topoB m ops seen L = true → (∀ j ∈ seen, done j = true) → (∃ j ∈ L, done j = false) →
    ∃ i ∈ L, done i = false ∧ ∃ o, ops[i]? = some o ∧ ∀ e ∈ o.after, Region.binds m e = true → done e.on = true
  | [], seen, _, _, ⟨j, hj, _⟩ => by simp at hj
  | i :: L, seen, h, hs, hex => by
    simp only [topoB, Bool.and_eq_true] at h
    cases hd : done i with
    | true =>
      obtain ⟨j, hj, hdj⟩ := hex
      have : j ∈ L := by
        rcases List.mem_cons.1 hj with e | e
        · subst e; rw [hd] at hdj; cases hdj
        · exact e
      obtain ⟨i', q1, q2⟩ := topo_next h.2 (fun j hj => by
        rcases List.mem_cons.1 hj with e | e
        · exact e ▸ hd
        · exact hs j e) ⟨j, this, hdj⟩
      exact ⟨i', List.mem_cons_of_mem _ q1, q2⟩
    | false =>
      have h1 := h.1
      split at h1
      · rename_i o ho
        refine ⟨i, by simp, hd, o, ho, fun e he hb => ?_⟩
        have := List.all_eq_true.1 h1 e (by simpa using he)
        simp only [hb, Bool.not_true, Bool.false_or] at this
        exact hs _ (by simpa using this)
      · cases h1
theorem binds_any {m : Region.Mode} {e : Edge} (h : Region.binds .any e = true) : Region.binds m e = true := by
  unfold Region.binds at h ⊢
  split <;> simp_all
theorem go_topo {m : Region.Mode} {ops : Array Oper} {L : List Nat} (hL : ordB m ops L = true) : ∀ (fuel t : Nat) (listed : Array Bool) (acc : List Nat), listed.size = ops.size →
    ((List.range ops.size).filter fun i => !listed.getD i true).length = fuel →
    ∃ l, Region.linearise.go m ops fuel t listed acc = acc.reverse ++ l ∧ TopoSeq ops (fun j => listed.getD j false) l := by
  intro fuel
  have hL' : topoB m ops [] L = true ∧ ∀ i, i < ops.size → i ∈ L := by
    simp only [ordB, Bool.and_eq_true, List.all_eq_true] at hL
    exact ⟨hL.1, fun i hi => by simpa using hL.2 i (by simpa using hi)⟩
  have hget : ∀ (listed : Array Bool) (i : Nat), listed.size = ops.size → i < ops.size → listed.getD i true = listed.getD i false := by
    intro listed i hs hi
    simp [Array.getD_eq_getD_getElem?, Array.getElem?_eq_getElem (show i < listed.size by omega)]
  induction fuel with
  | zero =>
    intro t listed acc hsz hlen
    have hnil : ((List.range ops.size).filter fun i => !listed.getD i true) = [] := List.eq_nil_of_length_eq_zero hlen
    refine ⟨[], by simp [Region.linearise.go], fun i hi => ?_⟩
    cases hq : listed.getD i false with
    | true => exact hq
    | false =>
      exfalso
      have : i ∈ ((List.range ops.size).filter fun i => !listed.getD i true) := List.mem_filter.2 ⟨List.mem_range.2 hi, by rw [hget listed i hsz hi, hq]; rfl⟩
      rw [hnil] at this; simp at this
  | succ fuel ih =>
    intro t listed acc hsz hlen
    generalize hrs : ((List.range ops.size).filter fun i => !listed.getD i true && ((ops[i]?).map (·.after.all fun e => !Region.binds m e || listed.getD e.on false)).getD false) = rs
    have hrsne : rs ≠ [] := by
      have hne : ((List.range ops.size).filter fun i => !listed.getD i true) ≠ [] := fun e => by rw [e] at hlen; simp at hlen
      obtain ⟨j, hj⟩ := List.exists_mem_of_ne_nil _ hne
      simp only [List.mem_filter, List.mem_range, Bool.not_eq_true'] at hj
      obtain ⟨i, hiL, hdi, o, ho, he⟩ := topo_next (done := fun j => listed.getD j false) hL'.1 (by simp) ⟨j, hL'.2 j hj.1, by rw [← hget listed j hsz hj.1]; exact hj.2⟩
      have hio : i < ops.size := (Array.getElem?_eq_some_iff.1 ho).1
      have hin : i ∈ rs := by
        rw [← hrs]
        simp only [List.mem_filter, List.mem_range, Bool.and_eq_true, Bool.not_eq_true', ho, Option.map_some, Option.getD_some]
        refine ⟨hio, by rw [hget listed i hsz hio]; exact hdi, ?_⟩
        rw [Array.all_eq_true_iff_forall_mem]
        intro e hem
        cases hb : Region.binds m e with
        | false => rfl
        | true => simpa using he e hem hb
      intro e; rw [e] at hin; simp at hin
    have hlt : t % rs.length < rs.length := Nat.mod_lt _ (List.length_pos_iff.2 hrsne)
    have hg : rs[t % rs.length]? = some (rs[t % rs.length]'hlt) := List.getElem?_eq_getElem hlt
    generalize hi : rs[t % rs.length]'hlt = i at hg
    have hi_in : i ∈ rs := by rw [← hi]; exact List.getElem_mem hlt
    rw [← hrs] at hi_in
    simp only [List.mem_filter, List.mem_range, Bool.and_eq_true, Bool.not_eq_true'] at hi_in
    obtain ⟨hi1, hi2, hi3⟩ := hi_in
    have hlen' : ((List.range ops.size).filter fun j => !(listed.setIfInBounds i true).getD j true).length = fuel := by
      have e1 : ((List.range ops.size).filter fun j => !(listed.setIfInBounds i true).getD j true) = ((List.range ops.size).filter fun i => !listed.getD i true).filter (· != i) := by
        rw [List.filter_filter]
        apply List.filter_congr
        intro j hj
        simp only [Array.getD_eq_getD_getElem?, Array.getElem?_setIfInBounds]
        have hil : i < listed.size := by omega
        by_cases hji : j = i
        · subst hji; simp [hil]
        · have : ¬ i = j := fun e => hji e.symm
          simp [this, hji]
      have hmem : i ∈ ((List.range ops.size).filter fun i => !listed.getD i true) := List.mem_filter.2 ⟨List.mem_range.2 hi1, by rw [hi2]; rfl⟩
      have hnd : ((List.range ops.size).filter fun i => !listed.getD i true).Nodup := List.nodup_range.sublist List.filter_sublist
      rw [e1, ← hnd.erase_eq_filter, List.length_erase_of_mem hmem, hlen]
      rfl
    obtain ⟨l, r1, r2⟩ := ih (t / rs.length) (listed.setIfInBounds i true) (i :: acc) (by simpa using hsz) hlen'
    refine ⟨i :: l, ?_, hi1, (hget listed i hsz hi1).symm.trans hi2, fun o e ho he hb => ?_, ?_⟩
    · simp only [Region.linearise.go, hrs, hg]
      rw [r1]; simp
    · rw [ho] at hi3
      simp only [Option.map_some, Option.getD_some] at hi3
      have := (Array.all_eq_true_iff_forall_mem.1 hi3) e he
      simpa [binds_any hb] using this
    · have e2 : (fun j => (listed.setIfInBounds i true).getD j false) = (fun j => j == i || listed.getD j false) := by
        funext j
        simp only [Array.getD_eq_getD_getElem?, Array.getElem?_setIfInBounds]
        have hil : i < listed.size := by omega
        by_cases hji : i = j
        · subst hji; simp [hil]
        · have : ¬ j = i := fun e => hji e.symm
          simp [hji, this]
      rw [← e2]; exact r2
theorem schedule_topo {ops : Array Oper} {C : Ord} {Ct Cg : List Nat} (h : drawB ops C Ct Cg = true) (mixed : Bool) (t : Nat) : TopoSeq ops (fun _ => false) (Region.schedule mixed ops t) := by
  simp only [drawB, Bool.and_eq_true] at h
  have hall : ((List.range ops.size).filter fun i => !(Array.replicate ops.size false).getD i true) = List.range ops.size := by
    apply List.filter_eq_self.2
    intro i hi
    simp only [List.mem_range] at hi
    simp [Array.getD_eq_getD_getElem?, Array.getElem?_replicate, hi]
  have key : ∀ (m : Region.Mode) (L : List Nat), ordB m ops L = true → ∀ t, TopoSeq ops (fun _ => false) (Region.linearise m ops t) := by
    intro m L hL t
    obtain ⟨l, h1, h2⟩ := go_topo hL ops.size t (Array.replicate ops.size false) [] (by simp) (by rw [hall]; simp)
    unfold Region.linearise
    rw [h1]
    have e : (fun j => (Array.replicate ops.size false).getD j false) = fun _ => false := by
      funext j
      simp only [Array.getD_eq_getD_getElem?, Array.getElem?_replicate]
      split <;> rfl
    rw [e] at h2
    simpa using h2
  unfold Region.schedule
  split
  · exact key _ _ h.1.1.1.2 t
  · rename_i hm
    have hd : Region.departs ops = true := by
      cases hq : Region.departs ops with
      | true => rfl
      | false => simp [hq] at hm
    have h2 := h.2
    simp only [hd, Bool.not_true, Bool.false_or, Bool.and_eq_true] at h2
    split
    · exact key _ _ h2.1 _
    · exact key _ _ h2.2 _
section
variable {P : Program} {E : Ent} {st : St} {a : Act} {w : World} {ρ : Locs} {I : Imm} {tt : TypeId → Option TI} {ops : Array Oper}
theorem draw_exec {C : Ord} (hchk : chk ops (ancsGo ops.toList []) C = true) (hall : ∀ i, i < ops.size → i ∈ C.map (·.1)) (hnd : (C.map (·.1)).Nodup) (hlt : ∀ q ∈ C, q.1 < ops.size) : ∀ (l : List Nat) (done : Nat → Bool) (s s' : St), TopoSeq ops done l → Closed ops done →
    DRun P E ops (C.filter fun q => !done q.1) s s' → ∀ (Q : Exit → Act → World → Prop) (a : Act) (w : World), R E s a w → (∀ a' w', R E s' a' w' → Q .normal a' w') → wpOps P ops Q l a w := by
  intro l
  induction l with
  | nil =>
    intro done s s' ht hc hrun Q a w hR hQ
    have hnil : (C.filter fun q => !done q.1) = [] := by
      apply List.filter_eq_nil_iff.2
      intro q hq
      simp [ht q.1 (hlt q hq)]
    rw [hnil] at hrun
    cases hrun
    exact hQ a w hR
  | cons i l ih =>
    intro done s s' ht hc hrun Q a w hR hQ
    obtain ⟨hi, hdi, hready, ht'⟩ := ht
    obtain ⟨q, hqC, hqi⟩ := List.mem_map.1 (hall i hi)
    have hqin : q ∈ C.filter fun q => !done q.1 := List.mem_filter.2 ⟨hqC, by rw [hqi, hdi]; rfl⟩
    obtain ⟨pre, post, hsplit⟩ := List.append_of_mem hqin
    have hchk' : chk ops (ancsGo ops.toList []) (pre ++ q :: post) = true := by rw [← hsplit]; exact chk_filter hchk
    have hnotdone : ∀ x ∈ pre ++ q :: post, done x.1 = false := fun x hx => by
      rw [← hsplit] at hx
      simpa using (List.mem_filter.1 hx).2
    have hnoanc : ∀ x ∈ pre, anc (ancsGo ops.toList []) q.1 x.1 = false := by
      intro x hx
      cases ha : anc (ancsGo ops.toList []) q.1 x.1 with
      | false => rfl
      | true =>
        have := ancs_ok ops _ _ ha done hc (by rw [hqi]; exact hready)
        rw [hnotdone x (by simp [hx])] at this; cases this
    have hpre : ∀ x ∈ pre, x.2 = none ∧ ∀ ox oq, ops[x.1]? = some ox → ops[q.1]? = some oq → apartE ops ox oq = true ∧ dstNot (readsE ops ox) ox.dst = true ∧ ∀ fr, q.2 = some fr → x.1 ∈ fr := by
      intro x hx
      obtain ⟨l1, l2, hs⟩ := List.append_of_mem hx
      rw [hs] at hchk'
      simp only [List.append_assoc, List.cons_append] at hchk'
      obtain ⟨ox, oy, e1, e2, e3, _⟩ := chk2_pair (chk_pair hchk')
      unfold chkPair at e3
      rw [hnoanc x hx] at e3
      simp only [Bool.false_or, Bool.and_eq_true, Option.isNone_iff_eq_none] at e3
      refine ⟨e3.1.1.1, fun ox' oq' g1 g2 => ?_⟩
      rw [e1] at g1; rw [e2] at g2
      cases g1; cases g2
      refine ⟨e3.1.1.2, e3.1.2, fun fr hfr => ?_⟩
      have := e3.2
      rw [hfr] at this
      simpa using this
    have hpm : pre = (pre.map (·.1)).map (·, none) := by
      rw [List.map_map]
      conv => lhs; rw [← List.map_id pre]
      apply List.map_congr_left
      intro x hx
      have := (hpre x hx).1
      cases x; simp at this; simp [this]
    have hCl' : Closed ops (fun j => j == i || done j) := by
      intro j o e hj ho he hb
      simp only [Bool.or_eq_true, beq_iff_eq] at hj ⊢
      rcases hj with rfl | hj
      · exact .inr (hready o e ho he hb)
      · exact .inr (hc j o e hj ho he hb)
    have hfil : (C.filter fun q => !((fun j => j == i || done j) q.1)) = pre ++ post := by
      have e1 : (C.filter fun q => !((fun j => j == i || done j) q.1)) = (C.filter fun q => !done q.1).filter (fun q => q.1 != i) := by
        rw [List.filter_filter]
        apply List.filter_congr
        intro x _
        simp only [Bool.not_or, bne]
      have hndf : ((C.filter fun q => !done q.1).map (·.1)).Nodup := hnd.sublist (List.Sublist.map _ List.filter_sublist)
      rw [hsplit] at hndf
      rw [e1, hsplit, List.filter_append, List.filter_cons]
      have hne : (q.1 != i) = false := by simp [hqi]
      rw [hne]
      simp only [Bool.false_eq_true, if_false]
      rw [List.map_append, List.map_cons, List.nodup_append] at hndf
      have hA : pre.filter (fun q => q.1 != i) = pre := List.filter_eq_self.2 fun x hx => by
        have := hndf.2.2 x.1 (List.mem_map.2 ⟨x, hx, rfl⟩) q.1 (by simp)
        simp only [bne_iff_ne, ne_eq]
        rw [← hqi]; exact this
      have hB : post.filter (fun q => q.1 != i) = post := List.filter_eq_self.2 fun x hx => by
        have := (List.nodup_cons.1 hndf.2.1).1
        simp only [bne_iff_ne, ne_eq]
        rw [← hqi]
        intro e
        exact this (List.mem_map.2 ⟨x, hx, e⟩)
      rw [hA, hB]
    rw [hsplit, hpm] at hrun
    obtain ⟨s1, hl, hrun1⟩ := drun_split hrun
    have hmemP : ∀ k ∈ pre.map (·.1), ∃ x ∈ pre, x.1 = k := fun k hk => List.mem_map.1 hk
    obtain ⟨qi, q2⟩ := q
    simp only at hqi
    subst hqi
    cases q2 with
    | none =>
      cases hrun1 with
      | look _ _ o _ d _ ho u hs =>
        obtain ⟨u0, hl0⟩ := lrun_front hl u (fun k hk x hx => by
          obtain ⟨y, hy, rfl⟩ := hmemP k hk
          exact ((hpre y hy).2 x o hx ho).1)
        have hd2 := lrun_drun hl0 hs
        rw [← hpm, ← hfil] at hd2
        refine u0 s Agree.rfl' l Q a w hR fun a' w' hR' => ?_
        exact ih _ _ s' ht' hCl' hd2 Q a' w' hR' hQ
    | some fr =>
      cases hrun1 with
      | eff _ _ _ o _ K h d _ ho u hst hs =>
        obtain ⟨u0, hl0⟩ := eff_front hl u (fun k hk => by
          obtain ⟨y, hy, rfl⟩ := hmemP k hk
          obtain ⟨l1, l2, hs2⟩ := List.append_of_mem hy
          have hch := hchk'
          rw [hs2] at hch
          simp only [List.append_assoc, List.cons_append] at hch
          obtain ⟨ox, oy, e1, e2, _⟩ := chk2_pair (chk_pair hch)
          exact hst y.1 (((hpre y hy).2 ox o e1 ho).2.2 fr rfl)) (fun k hk x hx => by
          obtain ⟨y, hy, rfl⟩ := hmemP k hk
          have := (hpre y hy).2 x o hx ho
          exact ⟨this.1, this.2.1⟩) (by
          rw [List.pairwise_map, List.pairwise_iff_getElem]
          intro m n hm hn hmn x y hx hy
          -- y1 stands ahead of y2 in pre
          have hsp : ∃ l0 l1 l2, pre = l0 ++ pre[m] :: (l1 ++ pre[n] :: l2) := by
            refine ⟨pre.take m, (pre.drop (m + 1)).take (n - (m + 1)), pre.drop (n + 1), ?_⟩
            have e1 : pre = pre.take m ++ pre.drop m := (List.take_append_drop m pre).symm
            have e2 : pre.drop m = pre[m] :: pre.drop (m + 1) := List.drop_eq_getElem_cons hm
            have e3 : pre.drop (m + 1) = (pre.drop (m + 1)).take (n - (m + 1)) ++ (pre.drop (m + 1)).drop (n - (m + 1)) := (List.take_append_drop _ _).symm
            have e4 : (pre.drop (m + 1)).drop (n - (m + 1)) = pre.drop n := by rw [List.drop_drop]; congr 1; omega
            have e5 : pre.drop n = pre[n] :: pre.drop (n + 1) := List.drop_eq_getElem_cons hn
            rw [← e5, ← e4, ← e3, ← e2, ← e1]
          obtain ⟨l0, l1, l2, hs2⟩ := hsp
          have hch := hchk'
          rw [hs2] at hch
          simp only [List.append_assoc, List.cons_append] at hch
          obtain ⟨ox, oy, e1, e2, _, e4⟩ := chk2_pair (chk_pair hch)
          rw [hx] at e1; rw [hy] at e2
          cases e1; cases e2
          simp only [Bool.or_eq_true, Bool.and_eq_true] at e4
          rcases e4 with e4 | e4
          · exact e4
          · exfalso
            have := List.all_eq_true.1 e4 (qi, some fr) (by simp)
            simp only [Option.isNone_some, Bool.false_or, Bool.or_eq_true] at this
            rcases this with q | q
            · rw [hnoanc _ (List.getElem_mem hm)] at q; cases q
            · rw [hnoanc _ (List.getElem_mem hn)] at q; cases q)
        have hd2 := lrun_drun hl0 hs
        rw [← hpm, ← hfil] at hd2
        refine u0 s Agree.rfl' l Q a w hR fun a' w' hR' => ?_
        exact ih _ _ s' ht' hCl' hd2 Q a' w' hR' hQ
def slotIs (st : St) (dst : Option Tmp) (d : D) : Prop := match dst with
  | some t => st.slots t = some d
  | none => True
def stabA (tt : TypeId → Option TI) (ops : Array Oper) (st : St) : List Nat → Prop
  | [] => True
  | x :: l => (match ops[x]? with
    | some o => (match st.want ops o with
      | some false => st.fits o.dst = true ∧ slotIs st o.dst (.v (.tuple #[]))
      | some true => (match val tt st o.op with
        | some (p, d) => p ∧ st.fits o.dst = true ∧ slotIs st o.dst d
        | none => False)
      | none => False)
    | none => False) ∧ stabA tt ops st l
def callKD (tt : TypeId → Option TI) (ops : Array Oper) (dst : Option Tmp) (fr : List Nat) (F : St → Prop) (st1 : St) (d : D) : Prop := st1.fits dst = true ∧ stabA tt ops (st1.put dst d) fr ∧ F (st1.put dst d)
def aopsD (P : Program) (tt : TypeId → Option TI) (ops : Array Oper) (K : St → Prop) (id : Nat) : Ord → St → Prop
  | [], st => K st
  | (i, none) :: rest, st => match ops[i]? with
    | some o => (match st.want ops o with
      | some false => st.fits o.dst = true ∧ aopsD P tt ops K id rest (st.put o.dst (.v (.tuple #[])))
      | some true => (match val tt st o.op with
        | some (p, d) => p ∧ st.fits o.dst = true ∧ aopsD P tt ops K id rest (st.put o.dst d)
        | none => False)
      | none => False)
    | none => False
  | (i, some fr) :: rest, st => match ops[i]? with
    | some o => (match st.want ops o with
      | some false => st.fits o.dst = true ∧ stabA tt ops (st.put o.dst (.v (.tuple #[]))) fr ∧ aopsD P tt ops K id rest (st.put o.dst (.v (.tuple #[])))
      | some true => (match exec0 tt (id + i) st o.op with
        | some (p, st1, d) => p ∧ st1.fits o.dst = true ∧ stabA tt ops (st1.put o.dst d) fr ∧ aopsD P tt ops K id rest (st1.put o.dst d)
        | none => match st.callOf o.op with
          | some (f, args) => CallVC P f args (purL (pur st.heap 4) args) st (id + i + 100000) (callKD tt ops o.dst fr (aopsD P tt ops K id rest))
          | none => False)
      | none => False)
    | none => False
theorem aopsD_nil (P : Program) (tt : TypeId → Option TI) (ops : Array Oper) (K : St → Prop) (id : Nat) (st : St) : aopsD P tt ops K id [] st = K st := rfl
def dLook (tt : TypeId → Option TI) (ops : Array Oper) (F : St → Prop) (st : St) : Option Oper → Prop
  | some o => runL F (stepL tt ops st o)
  | none => False
theorem dLook_some (tt : TypeId → Option TI) (ops : Array Oper) (F : St → Prop) (st : St) (o : Oper) : dLook tt ops F st (some o) = runL F (stepL tt ops st o) := rfl
theorem aopsD_look (P : Program) (tt : TypeId → Option TI) (ops : Array Oper) (K : St → Prop) (id : Nat) (i : Nat) (rest : Ord) (st : St) : aopsD P tt ops K id ((i, none) :: rest) st = dLook tt ops (aopsD P tt ops K id rest) st ops[i]? := by
  simp only [aopsD]
  cases ops[i]? with
  | none => rfl
  | some o =>
    simp only [dLook, stepL]
    cases st.want ops o with
    | none => rfl
    | some b => cases b with
      | false => rfl
      | true => cases val tt st o.op with
        | none => rfl
        | some q =>
          obtain ⟨p, d⟩ := q
          simp only [runL, and_assoc]
def stepE (tt : TypeId → Option TI) (ops : Array Oper) (id : Nat) (st : St) (o : Oper) : Option SRes := match st.want ops o with
  | some false => some (.go (st.fits o.dst = true) (st.put o.dst (.v (.tuple #[]))))
  | some true => match exec0 tt id st o.op with
    | some (p, st1, d) => some (.go (p ∧ st1.fits o.dst = true) (st1.put o.dst d))
    | none => match st.callOf o.op with
      | some (f, args) => some (.call f args)
      | none => none
  | none => none
def runE (P : Program) (tt : TypeId → Option TI) (ops : Array Oper) (st : St) (dst : Option Tmp) (nid : Nat) (fr : List Nat) (F : St → Prop) : Option SRes → Prop
  | some (.go p s) => p ∧ stabA tt ops s fr ∧ F s
  | some (.call f args) => CallVC P f args (purL (pur st.heap 4) args) st nid (callKD tt ops dst fr F)
  | _ => False
theorem runE_go (P : Program) (tt : TypeId → Option TI) (ops : Array Oper) (st : St) (dst : Option Tmp) (nid : Nat) (fr : List Nat) (F : St → Prop) (p : Prop) (s : St) : runE P tt ops st dst nid fr F (some (.go p s)) = (p ∧ stabA tt ops s fr ∧ F s) := rfl
theorem runE_call (P : Program) (tt : TypeId → Option TI) (ops : Array Oper) (st : St) (dst : Option Tmp) (nid : Nat) (fr : List Nat) (F : St → Prop) (f : FuncId) (args : List D) : runE P tt ops st dst nid fr F (some (.call f args)) = CallVC P f args (purL (pur st.heap 4) args) st nid (callKD tt ops dst fr F) := rfl
def dEff (P : Program) (tt : TypeId → Option TI) (ops : Array Oper) (id : Nat) (fr : List Nat) (F : St → Prop) (st : St) : Option Oper → Prop
  | some o => runE P tt ops st o.dst (id + 100000) fr F (stepE tt ops id st o)
  | none => False
theorem dEff_some (P : Program) (tt : TypeId → Option TI) (ops : Array Oper) (id : Nat) (fr : List Nat) (F : St → Prop) (st : St) (o : Oper) : dEff P tt ops id fr F st (some o) = runE P tt ops st o.dst (id + 100000) fr F (stepE tt ops id st o) := rfl
theorem aopsD_eff (P : Program) (tt : TypeId → Option TI) (ops : Array Oper) (K : St → Prop) (id : Nat) (i : Nat) (fr : List Nat) (rest : Ord) (st : St) : aopsD P tt ops K id ((i, some fr) :: rest) st = dEff P tt ops (id + i) fr (aopsD P tt ops K id rest) st ops[i]? := by
  simp only [aopsD]
  cases ops[i]? with
  | none => rfl
  | some o =>
    simp only [dEff, stepE]
    cases st.want ops o with
    | none => rfl
    | some b => cases b with
      | false => rfl
      | true => cases exec0 tt (id + i) st o.op with
        | some q =>
          obtain ⟨p, s1, d⟩ := q
          simp only [runE, and_assoc]
        | none => cases st.callOf o.op with
          | none => rfl
          | some q => rfl
def stab1 (tt : TypeId → Option TI) (ops : Array Oper) (st : St) : Option Oper → Prop
  | some o => (match st.want ops o with
      | some false => st.fits o.dst = true ∧ slotIs st o.dst (.v (.tuple #[]))
      | some true => (match val tt st o.op with
        | some (p, d) => p ∧ st.fits o.dst = true ∧ slotIs st o.dst d
        | none => False)
      | none => False)
  | none => False
theorem stab1_some (tt : TypeId → Option TI) (ops : Array Oper) (st : St) (o : Oper) : stab1 tt ops st (some o) = (match st.want ops o with
      | some false => st.fits o.dst = true ∧ slotIs st o.dst (.v (.tuple #[]))
      | some true => (match val tt st o.op with
        | some (p, d) => p ∧ st.fits o.dst = true ∧ slotIs st o.dst d
        | none => False)
      | none => False) := rfl
theorem stabA_nil (tt : TypeId → Option TI) (ops : Array Oper) (st : St) : stabA tt ops st [] = True := rfl
theorem stabA_cons (tt : TypeId → Option TI) (ops : Array Oper) (st : St) (x : Nat) (l : List Nat) : stabA tt ops st (x :: l) = (stab1 tt ops st ops[x]? ∧ stabA tt ops st l) := by
  simp only [stabA]
  cases ops[x]? <;> rfl
theorem stabA_stab (ht : TTok P tt) {s : St} : ∀ {l : List Nat}, stabA tt ops s l → ∀ x ∈ l, StabU P E ops x s
  | [], _, x, hx => by simp at hx
  | y :: l, h, x, hx => by
    simp only [stabA] at h
    rcases List.mem_cons.1 hx with e | e
    · subst e
      intro ox hox
      have h1 := h.1
      rw [hox] at h1
      simp only at h1
      split at h1
      · rename_i hw
        refine ⟨_, fun t ht' => ?_, skip_uni hox hw h1.1⟩
        have := h1.2
        rw [ht'] at this; exact this
      · rename_i hw
        split at h1
        · rename_i p d hv
          refine ⟨d, fun t ht' => ?_, look_uni ht hox hw hv h1.1 h1.2.1⟩
          have := h1.2.2
          rw [ht'] at this; exact this
        · exact h1.elim
      · exact h1.elim
    · exact stabA_stab ht h.2 x e
theorem aopsD_run (ht : TTok P tt) {K : St → Prop} {id : Nat} : ∀ {C : Ord} {s : St}, aopsD P tt ops K id C s → ∃ s', DRun P E ops C s s' ∧ K s'
  | [], s, h => ⟨s, .nil s, h⟩
  | (i, none) :: rest, s, h => by
    simp only [aopsD] at h
    split at h
    · rename_i o ho
      split at h
      · rename_i hw
        obtain ⟨s', r1, r2⟩ := aopsD_run ht h.2
        exact ⟨s', .look i rest o s _ s' ho (skip_uni ho hw h.1) r1, r2⟩
      · rename_i hw
        split at h
        · rename_i p d hv
          obtain ⟨s', r1, r2⟩ := aopsD_run ht h.2.2
          exact ⟨s', .look i rest o s _ s' ho (look_uni ht ho hw hv h.1 h.2.1) r1, r2⟩
        · exact h.elim
      · exact h.elim
    · exact h.elim
  | (i, some fr) :: rest, s, h => by
    simp only [aopsD] at h
    split at h
    · rename_i o ho
      split at h
      · rename_i hw
        obtain ⟨s', r1, r2⟩ := aopsD_run ht h.2.2
        have e := app_look s o.dst (.v (.tuple #[]))
        refine ⟨s', .eff i fr rest o s [] s.heap _ s' ho (skip_uni ho hw h.1) ?_ ?_, r2⟩
        · rw [e]; exact stabA_stab ht h.2.1
        · rw [e]; exact r1
      · rename_i hw
        split at h
        · rename_i p st1 d hv
          obtain ⟨K', h', e, u⟩ := exec_uni (E := E) ht ho hw hv h.1 h.2.1
          rw [e] at h
          obtain ⟨s', r1, r2⟩ := aopsD_run ht h.2.2.2
          exact ⟨s', .eff i fr rest o s K' h' d s' ho u (stabA_stab ht h.2.2.1) r1, r2⟩
        · split at h
          · rename_i f args hc
            obtain ⟨K', h', d, hk, u⟩ := call_uni (E := E) ho hw hc h (fun st1 d q => q.1)
            obtain ⟨s', r1, r2⟩ := aopsD_run ht hk.2.2
            exact ⟨s', .eff i fr rest o s K' h' d s' ho u (stabA_stab ht hk.2.1) r1, r2⟩
          · exact h.elim
      · exact h.elim
    · exact h.elim
theorem awp_drawE {Q : Exit → St → Prop} (ht : TTok P tt) {rid : Nat} (C : Ord) (Ct Cg : List Nat) (hC : drawB ops C Ct Cg = true) (h : aopsD P tt ops (fun st' => Q .normal st') (rid * 1000 + 1000) C st) : AWP P E (.region rid ops true) Q st := by
  intro a w hR
  refine wp_region_draw fun t => ?_
  obtain ⟨s', h1, h2⟩ := aopsD_run (E := E) ht h
  have hs := schedule_topo hC (P.follows .mixedOrders) t
  have hC' := hC
  simp only [drawB, ordB, Bool.and_eq_true, decide_eq_true_eq, List.all_eq_true] at hC'
  have e : (C.filter fun q => !((fun _ => false) q.1)) = C := List.filter_eq_self.2 (fun _ _ => rfl)
  refine draw_exec hC'.1.1.1.1 (fun i hi => by simpa using hC'.1.1.1.2.2 i (by simpa using hi)) hC'.1.1.2 hC'.1.2 _ (fun _ => false) st s' hs (fun j o e hj => by cases hj) (by rw [e]; exact h1) _ a _ ?_ (fun a' w' hR' => ⟨s', h2, hR'⟩)
  obtain ⟨ρ, I, hrb⟩ := hR
  exact ⟨ρ, I, hrb.drew⟩
def OpsAre (O : Array Oper) : List Oper → Nat → Prop
  | [], _ => True
  | o :: l, i => O[i]? = some o ∧ OpsAre O l (i + 1)
theorem opsAre_self (O : Array Oper) : ∀ (l : List Oper) (i : Nat), O.toList.drop i = l → OpsAre O l i
  | [], _, _ => trivial
  | o :: l, i, h => ⟨by
      have := congrArg (·[0]?) h
      simpa using this, opsAre_self O l (i + 1) (by rw [← List.drop_drop, h]; rfl)⟩
theorem awp_drawG {Q : Exit → St → Prop} (ht : TTok P tt) {rid : Nat} (C : Ord) (Ct Cg : List Nat) (hC : drawB ops C Ct Cg = true) (h : ∀ O : Array Oper, OpsAre O ops.toList 0 → aopsD P tt O (fun st' => Q .normal st') (rid * 1000 + 1000) C st) : AWP P E (.region rid ops true) Q st :=
  awp_drawE ht C Ct Cg hC (h ops (opsAre_self ops _ 0 (by simp)))
end
end Go.Ab
namespace Go.Ab
set_option linter.unusedSimpArgs false
set_option linter.unusedVariables false
def St.res1 (tt : TypeId → Option TI) (st : St) : ResultVar → Option (Prop × D)
  | .tmp t => match st.slots t with
    | some d => some (True, d)
    | none => none
  | .cell t T => match st.slots t with
    | some d => valLoad tt st T d
    | none => none
def St.resL (tt : TypeId → Option TI) (st : St) : List ResultVar → Option (Prop × List D)
  | [] => some (True, [])
  | r :: rs => match st.res1 tt r, st.resL tt rs with
    | some (p, d), some (q, ds) => some (p ∧ q, d :: ds)
    | _, _ => none
def St.resultV (tt : TypeId → Option TI) (st : St) : List ResultVar → Option (Prop × D)
  | [r] => st.res1 tt r
  | rs => match st.resL tt rs with
    | some (p, ds) => some (p, .tup ds)
    | none => none
def EndsV (tt : TypeId → Option TI) (rs : List ResultVar) (r : D) (objs : List AObj) (gs : List Nat) (e : Exit) (st : St) : Prop :=
  (e = .normal ∨ e = .ret) ∧ gs.length = objs.length ∧ gs.Nodup ∧ (r.all fun k => decide (k < objs.length)) = true ∧ (∀ o ∈ objs, o.flat = true ∨ o.rows.all (D.allL fun k => decide (k < objs.length)) = true) ∧
    (∃ p, st.resultV tt rs = some (p, r.ren fun j => gs.getD j 0) ∧ p) ∧ ∀ j o, objs[j]? = some o → st.heap (gs.getD j 0) = some (o.ren fun j => gs.getD j 0)
section
variable {P : Program} {E : Ent} {st : St} {a : Act} {w w' : World} {ρ : Locs} {I J : Imm} {tt : TypeId → Option TI}
theorem run_valVar (ht : TTok P tt) (h : RB E st a w ρ I) {T : TypeId} {x r : D} {p : Prop} {u : Value} (hv : valLoad tt st T x = some (p, r)) (hp : p) (hu : Rep I ρ x u) :
    ∃ z, (do loadVar T (← asAddr u) : Sem Value).run P w = .ok z w ∧ Rep I ρ r z := by
  unfold valLoad at hv
  split at hv
  · rename_i ti q row k hti hrow
    have hund := und_of ht hti
    split at hv
    · rename_i hagg
      simp only [Option.some.injEq, Prod.mk.injEq] at hv
      obtain ⟨rfl, rfl⟩ := hv
      obtain ⟨b, o, rfl, hr⟩ := h.rowOf hrow hp.1 hu
      have hlen : ((row.drop k).take ti.sz).length = ti.sz := by simp; omega
      obtain ⟨cs, c1, c2, c3⟩ := ((hr.drop k).take ti.sz).load (P := P)
      rw [hlen] at c1 c2
      refine ⟨.agg cs.toArray, ?_, .agg _ _ _ (by simp; omega) fun i d x h1 h2 => c3 i d x h1 (by simpa using h2)⟩
      simp [asAddr, loadVar, run_isAgg hund, hagg, run_sizeOf ht hti, c2]
    · rename_i hagg
      simp only [Option.some.injEq, Prod.mk.injEq] at hv
      obtain ⟨rfl, rfl⟩ := hv
      obtain ⟨b, o, rfl, hr⟩ := h.rowOf hrow hp.1 hu
      obtain ⟨y, q1, q2, q3⟩ := hr k _ (List.getElem?_eq_getElem hp.2)
      refine ⟨y, ?_, by simpa [List.getD, List.getElem?_eq_getElem hp.2] using q3⟩
      simp [asAddr, loadVar, run_isAgg hund, hagg, q1]
  · cases hv
def resSem (tmps : Array Value) : ResultVar → Sem Value
  | .tmp t => pure (tmps.getD t undef)
  | .cell a t => do loadVar t (← asAddr (tmps.getD a undef))
theorem RB.res1 (ht : TTok P tt) (h : RB E st a w ρ I) {r : ResultVar} {p : Prop} {d : D} (hd : st.res1 tt r = some (p, d)) (hp : p) : ∃ z, (resSem a.tmps r).run P w = .ok z w ∧ Rep I ρ d z := by
  cases r with
  | tmp t =>
    simp only [St.res1] at hd
    split at hd
    · rename_i d' hs
      simp only [Option.some.injEq, Prod.mk.injEq] at hd
      obtain ⟨rfl, rfl⟩ := hd
      exact ⟨_, rfl, (h.slots t _ hs).2⟩
    · cases hd
  | cell t T =>
    simp only [St.res1] at hd
    split at hd
    · rename_i d' hs
      exact run_valVar ht h hd hp (h.slots t _ hs).2
    · cases hd
theorem RB.resL (ht : TTok P tt) (h : RB E st a w ρ I) : ∀ {rs : List ResultVar} {p : Prop} {ds : List D}, st.resL tt rs = some (p, ds) → p → ∃ zs, (rs.mapM (resSem a.tmps)).run P w = .ok zs w ∧ RepL I ρ ds zs
  | [], p, ds, hd, hp => by
    simp only [St.resL, Option.some.injEq, Prod.mk.injEq] at hd
    obtain ⟨_, rfl⟩ := hd
    exact ⟨[], rfl, trivial⟩
  | r :: rs, p, ds, hd, hp => by
    simp only [St.resL] at hd
    split at hd
    · rename_i p1 d1 q ds1 e1 e2
      simp only [Option.some.injEq, Prod.mk.injEq] at hd
      obtain ⟨rfl, rfl⟩ := hd
      obtain ⟨z, z1, z2⟩ := h.res1 ht e1 hp.1
      obtain ⟨zs, y1, y2⟩ := RB.resL ht h e2 hp.2
      refine ⟨z :: zs, ?_, z2, y2⟩
      simp only [List.mapM_cons, Sem.run_bind, z1, Result.andThen_ok, y1, Sem.run_pure]
    · cases hd
theorem RB.resultV (ht : TTok P tt) (h : RB E st a w ρ I) {fn : Func} {rs : List ResultVar} (hr : fn.results = rs.toArray) {d : D} (hd : ∃ p, st.resultV tt rs = some (p, d) ∧ p) : ∃ z, (results fn a.tmps).run P w = .ok z w ∧ Rep I ρ d z := by
  obtain ⟨p, hd, hp⟩ := hd
  have hrun : ∀ (rs : List ResultVar), fn.results = rs.toArray → ∀ zs, (rs.mapM (resSem a.tmps)).run P w = .ok zs w → (results fn a.tmps).run P w = .ok (if h : zs.toArray.size = 1 then zs.toArray[0] else .tuple zs.toArray) w := by
    intro rs hr zs hz
    unfold results
    rw [hr]
    have hm := mapM_array_list (P := P) (w := w) (resSem a.tmps) rs.toArray _ hz
    have key : ∀ g : ResultVar → Sem Value, (∀ r, g r = resSem a.tmps r) → (Array.mapM g rs.toArray).run P w = .ok zs.toArray w := fun g hg => by rw [funext hg]; exact hm
    rw [Sem.run_bind, key _ (fun r => by cases r <;> rfl)]
    simp only [Result.andThen_ok, Sem.run_pure]
  match rs, hr, hd with
  | [r], hr, hd =>
    obtain ⟨z, z1, z2⟩ := h.res1 ht hd hp
    have hz : ([r].mapM (resSem a.tmps)).run P w = .ok [z] w := by
      simp only [List.mapM_cons, List.mapM_nil, Sem.run_bind, z1, Result.andThen_ok, Sem.run_pure]
    exact ⟨z, hrun _ hr _ hz, z2⟩
  | [], hr, hd =>
    simp only [St.resultV, St.resL, Option.some.injEq, Prod.mk.injEq] at hd
    obtain ⟨_, rfl⟩ := hd
    exact ⟨_, hrun _ hr [] rfl, .tup _ _ _ rfl (by simp)⟩
  | r1 :: r2 :: rs, hr, hd =>
    simp only [St.resultV] at hd
    split at hd
    · rename_i q ds hds
      simp only [Option.some.injEq, Prod.mk.injEq] at hd
      obtain ⟨rfl, rfl⟩ := hd
      obtain ⟨zs, z1, z2⟩ := h.resL ht hds hp
      refine ⟨_, hrun _ hr zs z1, ?_⟩
      obtain ⟨q1, q2⟩ := RepL.get z2
      have hlen : ∀ {rs : List ResultVar} {p : Prop} {ds : List D}, st.resL tt rs = some (p, ds) → ds.length = rs.length := by
        intro rs
        induction rs with
        | nil => intro p ds hd; simp only [St.resL, Option.some.injEq, Prod.mk.injEq] at hd; obtain ⟨_, rfl⟩ := hd; rfl
        | cons r rs ih =>
          intro p ds hd
          simp only [St.resL] at hd
          split at hd
          · rename_i e1 e2
            simp only [Option.some.injEq, Prod.mk.injEq] at hd
            obtain ⟨_, rfl⟩ := hd
            simp [ih e2]
          · cases hd
      have hl := hlen hds
      have hne : ¬ zs.toArray.size = 1 := by simp only [List.size_toArray, ← q1, hl, List.length_cons]; omega
      rw [dif_neg hne]
      exact .tup _ _ _ (by simpa using q1) fun i d x h1 h2 => q2 i d x h1 (by simpa using h2)
    · cases hd
theorem contract_of_awpV (ht : TTok P tt) {f : FuncId} {fn : Func} {c : Code} {n : Nat} {rs : List ResultVar} {ds : List D} {r : D} {objs : List AObj} (hf : P.funcs[f]? = some fn) (hb : fn.body = some c) (hn : fn.ntmps = n) (hds : ds.length ≤ n)
    (hrs : fn.results = rs.toArray) (h : ∀ E, AWP P E c (fun e s => ∃ gs, EndsV tt rs r objs gs e s) (startSt n ds)) : Contract P f ds r objs := by
  intro w I vs hI hvs
  refine calls_of_wp hf hb ?_
  obtain ⟨v1, v2⟩ := RepL.get hvs
  let E : Ent := ⟨w, fun _ => False, I, noLocs, []⟩
  have hR : R E (startSt n ds) { tmps := vs.toArray ++ Array.replicate (fn.ntmps - vs.toArray.size) undef, defers := [] } w := by
    refine ⟨noLocs, I, ⟨by simp [startSt]; omega, rfl, fun t d hd => ?_, ⟨fun id o ho => by simp [startSt] at ho, fun i1 o1 l1 i2 o2 l2 b h1 => by simp [startSt] at h1, hI⟩, fun _ _ q => q, fun _ _ q => .inl q, Ext.refl _ _, fun id o l b ho => by simp [startSt] at ho, fun id o ho => by simp [startSt] at ho, fun m hm => by simp [startSt] at hm⟩⟩
    have hd' : ds[t]? = some d := hd
    have ht := (List.getElem?_eq_some_iff.1 hd').1
    refine ⟨by simp [startSt]; omega, ?_⟩
    have hx : vs[t]? = some (vs[t]'(by omega)) := List.getElem?_eq_getElem (by omega)
    have e : (vs.toArray ++ Array.replicate (fn.ntmps - vs.toArray.size) undef).getD t undef = vs[t]'(by omega) := by
      rw [Array.getD_eq_getD_getElem?, Array.getElem?_append_left (by simp; omega)]
      simp [hx]
    rw [e]
    exact v2 t d _ hd' hx
  refine wp_mono (h E _ _ hR) fun e a' w' ⟨st', ⟨gs, hend⟩, ρ, J, hrb⟩ => ?_
  obtain ⟨he, hlen, hnd, hrall, hoall, hres, hobjs⟩ := hend
  have key : a'.defers = [] ∧ ∃ v, (results fn a'.tmps).run P w' = .ok v w' ∧ ∃ v' ρ' I', Ending.returned v = .returned v' ∧ (∀ b c, I b = some c → I' b = some c) ∧ (∀ b c, I' b = some c → I b = some c ∨ w.heap.size ≤ b) ∧
      Rep I' ρ' r v' ∧ Mem I' ρ' (fun j => objs[j]?) w' ∧ (∀ j l, ρ' j = some l → j < objs.length) ∧ Ext (fun _ => False) w w' ∧ (∀ (j : Nat) o l b, objs[j]? = some o → o.wr = true → ρ' j = some l → l.blk = some b → w.heap.size ≤ b) := by
    obtain ⟨v0, hv0, hr0⟩ := hrb.resultV ht hrs hres
    refine ⟨hrb.defers, v0, hv0, v0, fun j => if j < objs.length then ρ (gs.getD j 0) else none, J, rfl, hrb.i0, fun b c q => ?_, ?_, ⟨?_, ?_, hrb.mem.imm⟩, fun j l q => ?_, hrb.ext, ?_⟩
    · rcases hrb.i1 b c q with q | q | q
      · exact .inl q
      · exact q.elim
      · exact .inr q
    · have := Rep.unren r hr0
      exact this.locs (p := fun k => decide (k < objs.length)) (fun k hk => by simp only [decide_eq_true_eq] at hk; simp [hk]) hrall
    · intro j o ho
      have hj := (List.getElem?_eq_some_iff.1 ho).1
      obtain ⟨l, hl, hlaid⟩ := hrb.mem.laid _ _ (hobjs j o ho)
      exact ⟨l, by simp only [hj, if_true]; exact hl, laid_unren hlaid (hoall o (List.mem_of_getElem? ho))⟩
    · intro i1 o1 l1 i2 o2 l2 b h1 m1 e1 b1 h2 m2 e2 b2
      have hj1 := (List.getElem?_eq_some_iff.1 h1).1
      have hj2 := (List.getElem?_eq_some_iff.1 h2).1
      simp only [hj1, if_true] at e1
      simp only [hj2, if_true] at e2
      have := hrb.mem.apart _ _ _ _ _ _ _ (hobjs i1 o1 h1) (by rw [AObj.ren_wr]; exact m1) e1 b1 (hobjs i2 o2 h2) (by rw [AObj.ren_wr]; exact m2) e2 b2
      have q1 : gs.getD i1 0 = gs[i1]'(by omega) := by simp [List.getD, List.getElem?_eq_getElem (show i1 < gs.length by omega)]
      have q2 : gs.getD i2 0 = gs[i2]'(by omega) := by simp [List.getD, List.getElem?_eq_getElem (show i2 < gs.length by omega)]
      rw [q1, q2] at this
      have hp := List.pairwise_iff_getElem.1 hnd
      rcases Nat.lt_trichotomy i1 i2 with g | g | g
      · exact absurd this (hp i1 i2 (by omega) (by omega) g)
      · exact g
      · exact absurd this.symm (hp i2 i1 (by omega) (by omega) g)
    · have q' : (if j < objs.length then ρ (gs.getD j 0) else none) = some l := q
      split at q'
      · assumption
      · cases q'
    · intro j o l b ho hw hl hb
      have hj := (List.getElem?_eq_some_iff.1 ho).1
      simp only [hj, if_true] at hl
      rcases hrb.fresh _ _ _ _ (hobjs j o ho) (by rw [AObj.ren_wr]; exact hw) hl hb with q | q
      · exact q.elim
      · exact q
  rcases he with rfl | rfl <;> exact key
def ObjsAt (st : St) (gs : List Nat) : List AObj → Nat → Prop
  | [], _ => True
  | o :: os, j => st.heap (gs.getD j 0) = some (o.ren fun j => gs.getD j 0) ∧ ObjsAt st gs os (j + 1)
theorem objsAt_get {gs : List Nat} : ∀ {os : List AObj} {j : Nat}, ObjsAt st gs os j → ∀ {i : Nat} {o : AObj}, os[i]? = some o → st.heap (gs.getD (j + i) 0) = some (o.ren fun j => gs.getD j 0)
  | [], _, _, i, o, h => by simp at h
  | o1 :: os, j, hk, 0, o, h => by simp at h; subst h; exact hk.1
  | o1 :: os, j, hk, i + 1, o, h => by
    have := objsAt_get (os := os) (j := j + 1) hk.2 (i := i) (o := o) (by simpa using h)
    rwa [show j + 1 + i = j + (i + 1) by omega] at this
theorem endsV (gs : List Nat) {rs : List ResultVar} {r : D} {objs : List AObj} {e : Exit} {p : Prop} (he : e = .normal ∨ e = .ret) (hres : st.resultV tt rs = some (p, r.ren fun j => gs.getD j 0)) (hat : ObjsAt st gs objs 0) (hp : p := by first | with_reducible trivial | omega)
    (hlen : gs.length = objs.length := by rfl) (hr : (r.all fun k => decide (k < objs.length)) = true := by rfl) (ho : objs.all (fun o => o.flat || o.rows.all (D.allL fun k => decide (k < objs.length))) = true := by rfl) (hnd : gs.Nodup := by decide) : ∃ gs, EndsV tt rs r objs gs e st :=
  ⟨gs, he, hlen, hnd, hr, fun o hoo => by have := List.all_eq_true.1 ho o hoo; simpa using this, ⟨p, hres, hp⟩, fun j o hj => by have := objsAt_get hat hj; rwa [Nat.zero_add] at this⟩
def St.unpin (st : St) (id : Nat) : St := { st with heap := fun k => if k = id then (st.heap k).map AObj.bare else st.heap k }
def swapN (x y k : Nat) : Nat := if k = x then y else if k = y then x else k
theorem swapN_swapN (x y k : Nat) : swapN x y (swapN x y k) = k := by
  unfold swapN
  by_cases h1 : k = x
  · subst h1
    by_cases h2 : y = k
    · simp [h2]
    · simp [h2]
  · by_cases h2 : k = y
    · subst h2; simp [h1]
    · simp [h1, h2]
def St.swap (st : St) (x y : Nat) : St := { st with slots := fun t => (st.slots t).map (D.ren (swapN x y)), heap := fun k => (st.heap (swapN x y k)).map fun o => (o.ren (swapN x y)).bare }
theorem R.swap {a : Act} {w : World} (x y : Nat) (h : R E st a w) : R E (st.swap x y) a w := by
  obtain ⟨ρ, I, hrb⟩ := h
  let ρ' : Locs := fun k => ρ (swapN x y k)
  have hσ : ∀ j l, ρ j = some l → ρ' (swapN x y j) = some l := fun j l hl => by simp only [ρ', swapN_swapN]; exact hl
  have hget : ∀ k o, (st.swap x y).heap k = some o → ∃ o0, st.heap (swapN x y k) = some o0 ∧ o = (o0.ren (swapN x y)).bare ∧ o.wr = o0.wr := fun k o ho => by
    obtain ⟨o0, q1, rfl⟩ := Option.map_eq_some_iff.1 (show (st.heap (swapN x y k)).map (fun o => (o.ren (swapN x y)).bare) = some o from ho)
    exact ⟨o0, q1, rfl, AObj.ren_wr⟩
  refine ⟨ρ', I, ⟨hrb.size, hrb.defers, fun t d hd => ?_, ⟨fun k o ho => ?_, fun i1 o1 l1 i2 o2 l2 b h1 m1 e1 b1 h2 m2 e2 b2 => ?_, hrb.mem.imm⟩, hrb.i0, hrb.i1, hrb.ext, fun k o l b ho hw hl hb => ?_, fun k o ho hp => ?_, hrb.mp⟩⟩
  · obtain ⟨d0, q1, rfl⟩ := Option.map_eq_some_iff.1 (show (st.slots t).map (D.ren (swapN x y)) = some d from hd)
    obtain ⟨r1, r2⟩ := hrb.slots t d0 q1
    exact ⟨r1, Rep.ren (ρ' := ρ') (σ := swapN x y) hσ r2⟩
  · obtain ⟨o0, q1, rfl, _⟩ := hget k o ho
    obtain ⟨l, el, hl⟩ := hrb.mem.laid _ o0 q1
    exact ⟨l, el, (LaidObj.renTo (ρ' := ρ') (σ := swapN x y) hσ hl).pinAny false⟩
  · obtain ⟨p1, q1, _, q3⟩ := hget i1 o1 h1
    obtain ⟨p2, r1, _, r3⟩ := hget i2 o2 h2
    have := hrb.mem.apart _ _ _ _ _ _ _ q1 (q3.symm.trans m1) e1 b1 r1 (r3.symm.trans m2) e2 b2
    have h3 := congrArg (swapN x y) this
    rwa [swapN_swapN, swapN_swapN] at h3
  · obtain ⟨o0, q1, _, q3⟩ := hget k o ho
    exact hrb.fresh _ _ _ _ q1 (q3.symm.trans hw) hl hb
  · obtain ⟨o0, q1, rfl, _⟩ := hget k o ho
    cases hp
end
end Go.Ab
namespace Go.Ab
set_option linter.unusedSimpArgs false
set_option linter.unusedVariables false
section
variable {P : Program} {E : Ent} {st : St} {tt : TypeId → Option TI}
def St.pureSlot (st : St) (t : Nat) (ids : List Nat) (d : D) : St := { st.freeze ids with slots := upd (st.freeze ids).slots t d }
theorem awp_pure {c : Code} {Q : Exit → St → Prop} (t : Nat) {d d' : D} {ids : List Nat} {p : Prop} (hs : st.slots t = some d) (he : pur st.heap 4 d = some (ids, p, d')) (hp : p) (h : AWP P E c Q (st.pureSlot t ids d')) : AWP P E c Q st := by
  intro a w hR
  obtain ⟨ρ, I, hrb⟩ := hR
  obtain ⟨ht, hx⟩ := hrb.slots t d hs
  obtain ⟨J, _, h', hd'⟩ := hrb.pur he hp hx
  refine h a w ⟨ρ, J, ⟨h'.size, h'.defers, fun u e hu => ?_, h'.mem, h'.i0, h'.i1, h'.ext, h'.fresh, h'.pins, h'.mp⟩⟩
  simp only [St.pureSlot, upd] at hu
  split at hu
  · rename_i q
    cases hu
    subst q
    exact ⟨ht, hd'.mono (fun id l hl => by cases hl)⟩
  · exact h'.slots u e hu
end
end Go.Ab
namespace Go.Ab
set_option linter.unusedSimpArgs false
set_option linter.unusedVariables false
def schedB (ops : Array Oper) (L Ct Cg : List Nat) : Bool := ordB .any ops L && (!Region.departs ops || (ordB .text ops Ct && ordB .gc ops Cg))
theorem schedule_topo2 {ops : Array Oper} {L Ct Cg : List Nat} (h : schedB ops L Ct Cg = true) (mixed : Bool) (t : Nat) : TopoSeq ops (fun _ => false) (Region.schedule mixed ops t) := by
  simp only [schedB, Bool.and_eq_true] at h
  have hall : ((List.range ops.size).filter fun i => !(Array.replicate ops.size false).getD i true) = List.range ops.size := by
    apply List.filter_eq_self.2
    intro i hi
    simp only [List.mem_range] at hi
    simp [Array.getD_eq_getD_getElem?, Array.getElem?_replicate, hi]
  have key : ∀ (m : Region.Mode) (L : List Nat), ordB m ops L = true → ∀ t, TopoSeq ops (fun _ => false) (Region.linearise m ops t) := by
    intro m L hL t
    obtain ⟨l, h1, h2⟩ := go_topo hL ops.size t (Array.replicate ops.size false) [] (by simp) (by rw [hall]; simp)
    unfold Region.linearise
    rw [h1]
    have e : (fun j => (Array.replicate ops.size false).getD j false) = fun _ => false := by
      funext j
      simp only [Array.getD_eq_getD_getElem?, Array.getElem?_replicate]
      split <;> rfl
    rw [e] at h2
    simpa using h2
  unfold Region.schedule
  split
  · exact key _ _ h.1 t
  · rename_i hm
    have hd : Region.departs ops = true := by
      cases hq : Region.departs ops with
      | true => rfl
      | false => simp [hq] at hm
    have h2 := h.2
    simp only [hd, Bool.not_true, Bool.false_or, Bool.and_eq_true] at h2
    split
    · exact key _ _ h2.1 _
    · exact key _ _ h2.2 _
section
variable {P : Program} {E : Ent} {st : St} {a : Act} {w : World} {ρ : Locs} {I : Imm} {tt : TypeId → Option TI} {ops : Array Oper}
inductive Tr where
  | lf
  | nd (b x : Nat) (l r : Tr)
def Tr.ok : Tr → Bool
  | .lf => true
  | .nd b x l r => decide (b ≠ x) && l.ok && r.ok
def aopsS (P : Program) (tt : TypeId → Option TI) (O : Array Oper) (K : St → Prop) (id : Nat) : List Ord → St → Prop
  | [], _ => True
  | C :: Cs, st => aopsD P tt O K id C st ∧ aopsS P tt O K id Cs st
theorem aopsS_nil (P : Program) (tt : TypeId → Option TI) (O : Array Oper) (K : St → Prop) (id : Nat) (st : St) : aopsS P tt O K id [] st = True := rfl
theorem aopsS_cons (P : Program) (tt : TypeId → Option TI) (O : Array Oper) (K : St → Prop) (id : Nat) (C : Ord) (Cs : List Ord) (st : St) : aopsS P tt O K id (C :: Cs) st = (aopsD P tt O K id C st ∧ aopsS P tt O K id Cs st) := rfl
def joinA (T : St) (Q : Exit → St → Prop) : Exit → St → Prop
  | .normal, st => T.le st
  | e, st => Q e st
theorem awp_join {c : Code} {Q : Exit → St → Prop} (T : St) (hQ : Q .normal T) (h : AWP P E c (joinA T Q) st) : AWP P E c Q st := by
  intro a w hR
  refine wp_mono (h a w hR) fun e a' w' ⟨s, h1, h2⟩ => ?_
  cases e with
  | normal => exact ⟨T, hQ, h2.le h1⟩
  | _ => exact ⟨s, h1, h2⟩
end
section
variable {P : Program} {E : Ent} {st : St} {tt : TypeId → Option TI}
def St.unflat (st : St) (id : Nat) : St := { st with heap := fun k => if k = id then (st.heap k).map fun o => { o with flat := false } else st.heap k }
theorem LaidObj.unflat {I : Imm} {ρ : Locs} {w : World} {o : AObj} {l : Loc} (h : LaidObj I ρ w o l) : LaidObj I ρ w { o with flat := false } l := by
  refine ⟨h.sz, h.pos, h.rows, h.cap, ?_⟩
  rcases h.mem with g0 | ⟨b, c, e, lo, hi, g1, g2, g3, g4, g5, g6, hone, g7⟩
  · exact .inl g0
  · refine .inr ⟨b, c, e, lo, hi, g1, g2, g3, g4, g5, g6, hone, fun i j row d x q1 q2 q3 => ?_⟩
    have := g7 i j row d x q1 q2 q3
    simp only [Bool.false_eq_true, if_false]
    split at this
    · exact this.mono (fun id l hl => by cases hl)
    · exact this
theorem unflat_some {id k : Nat} {o : AObj} (h : (st.unflat id).heap k = some o) : ∃ o0, st.heap k = some o0 ∧ o.wr = o0.wr ∧ o.pin = o0.pin ∧ (o = o0 ∨ o = { o0 with flat := false }) := by
  simp only [St.unflat] at h
  split at h
  · obtain ⟨o0, h1, rfl⟩ := Option.map_eq_some_iff.1 h
    exact ⟨o0, h1, rfl, rfl, .inr rfl⟩
  · exact ⟨o, h, rfl, rfl, .inl rfl⟩
theorem awp_unflat {c : Code} {Q : Exit → St → Prop} (id : Nat) (h : AWP P E c Q (st.unflat id)) : AWP P E c Q st := by
  refine fun a w hR => h a w ?_
  obtain ⟨ρ, I, hrb⟩ := hR
  refine ⟨ρ, I, ⟨hrb.size, hrb.defers, hrb.slots, ⟨fun k o ho => ?_, fun i1 o1 l1 i2 o2 l2 b h1 m1 e1 b1 h2 m2 e2 b2 => ?_, hrb.mem.imm⟩, hrb.i0, hrb.i1, hrb.ext, fun k o l b ho hw hl hb => ?_, fun k o ho hp => ?_, hrb.mp⟩⟩
  · obtain ⟨o0, q1, _, _, q4⟩ := unflat_some ho
    obtain ⟨l, el, hl⟩ := hrb.mem.laid k o0 q1
    rcases q4 with rfl | rfl
    · exact ⟨l, el, hl⟩
    · exact ⟨l, el, hl.unflat⟩
  · obtain ⟨p1, q1, q2, _⟩ := unflat_some h1
    obtain ⟨p2, r1, r2, _⟩ := unflat_some h2
    exact hrb.mem.apart _ _ _ _ _ _ _ q1 (q2.symm.trans m1) e1 b1 r1 (r2.symm.trans m2) e2 b2
  · obtain ⟨o0, q1, q2, _⟩ := unflat_some ho
    exact hrb.fresh _ _ _ _ q1 (q2.symm.trans hw) hl hb
  · obtain ⟨o0, q1, _, q3, _⟩ := unflat_some ho
    exact hrb.pins _ _ q1 (q3.symm.trans hp)
def St.pureObj (st : St) (id : Nat) (ids : List Nat) (o : AObj) (rows : List (List D)) : St := { st.freeze ids with heap := upd (st.freeze ids).heap id { o with rows := rows, flat := true } }
theorem awp_pureO {c : Code} {Q : Exit → St → Prop} (id : Nat) {o : AObj} {ids : List Nat} {p : Prop} {rows : List (List D)} (ho : st.heap id = some o) (hf : o.flat = false) (he : purLL (pur st.heap 4) o.rows = some (ids, p, rows)) (hp : p) (hid : id ∉ ids) (h : AWP P E c Q (st.pureObj id ids o rows)) : AWP P E c Q st := by
  refine fun a w hR => h a w ?_
  obtain ⟨ρ, I, hrb⟩ := hR
  obtain ⟨J, hJ, h'⟩ := hrb.freeze ids
  have hpk := pur_ok (I := J) (ρ := ρ) (w := w) h'.mem hrb.rowsLen 4
  obtain ⟨r1, r2, r3⟩ := purLL_ok hpk he hp (frozenBy_freeze ids)
  have hfz : (st.freeze ids).heap id = some o := by simp [St.freeze, ho, hid]
  have hget : ∀ k o1, (st.pureObj id ids o rows).heap k = some o1 → ∃ o0, (st.freeze ids).heap k = some o0 ∧ o1.wr = o0.wr ∧ o1.pin = o0.pin ∧ ((k = id ∧ o1 = { o with rows := rows, flat := true }) ∨ (k ≠ id ∧ o1 = o0)) := fun k o1 hk => by
    simp only [St.pureObj, upd] at hk
    split at hk
    · rename_i e
      cases hk
      subst e
      exact ⟨o, hfz, rfl, rfl, .inl ⟨rfl, rfl⟩⟩
    · rename_i e
      exact ⟨o1, hk, rfl, rfl, .inr ⟨e, rfl⟩⟩
  refine ⟨ρ, J, ⟨h'.size, h'.defers, h'.slots, ⟨fun k o1 hk => ?_, fun i1 o1 l1 i2 o2 l2 b h1 m1 e1 b1 h2 m2 e2 b2 => ?_, h'.mem.imm⟩, h'.i0, h'.i1, h'.ext, fun k o1 l b hk hw hl hb => ?_, fun k o1 hk hp => ?_, h'.mp⟩⟩
  · obtain ⟨o0, q1, q2, q3, ⟨rfl, rfl⟩ | ⟨hne, rfl⟩⟩ := hget k o1 hk
    · rw [hfz] at q1; cases q1
      obtain ⟨l, el, hl⟩ := h'.mem.laid k o hfz
      refine ⟨l, el, hl.sz, hl.pos, fun row hr => ?_, by simp only; rw [r1]; exact hl.cap, ?_⟩
      · obtain ⟨i, hi⟩ := List.getElem?_of_mem hr
        obtain ⟨row0, g1, g2⟩ := r2 i row hi
        rw [g2]
        exact hl.rows row0 (List.mem_of_getElem? g1)
      · rcases hl.mem with g0 | ⟨b, c, e, lo, hi, g1, g2, g3, g4, g5, g6, hone, g7⟩
        · exact .inl g0
        · refine .inr ⟨b, c, e, lo, hi, g1, g2, g3, g4, g5, g6, hone, fun i j row d x q1 q2 q3 => ?_⟩
          simp only [if_true]
          refine r3 i j row d x q1 q2 fun row0 d0 hr0 hd0 => ?_
          have := g7 i j row0 d0 x hr0 hd0 q3
          rw [hf] at this
          simpa using this
    · exact (h'.mem.laid k o1 q1).imp fun l hl => ⟨hl.1, hl.2⟩
  · obtain ⟨p1, q1, q2, _⟩ := hget i1 o1 h1
    obtain ⟨p2, s1, s2, _⟩ := hget i2 o2 h2
    exact h'.mem.apart _ _ _ _ _ _ _ q1 (q2.symm.trans m1) e1 b1 s1 (s2.symm.trans m2) e2 b2
  · obtain ⟨o0, q1, q2, _⟩ := hget k o1 hk
    exact h'.fresh _ _ _ _ q1 (q2.symm.trans hw) hl hb
  · obtain ⟨o0, q1, _, q3, _⟩ := hget k o1 hk
    exact h'.pins _ _ q1 (q3.symm.trans hp)
end
section
variable {P : Program} {E : Ent} {st : St}
def joinX {X : Type} (id : Nat) (T : X → St) (Inv : X → Prop) (Q : Exit → St → Prop) : Exit → St → Prop
  | .exit i, st => if i = id then ∃ x, Inv x ∧ (T x).le st else Q (.exit i) st
  | e, st => Q e st
theorem awp_joinX {X : Type} {c : Code} {Q : Exit → St → Prop} (id : Nat) (T : X → St) (Inv : X → Prop) (hQ : ∀ x, Inv x → Q (.exit id) (T x)) (h : AWP P E c (joinX id T Inv Q) st) : AWP P E c Q st := by
  intro a w hR
  refine wp_mono (h a w hR) fun e a' w' ⟨s, h1, h2⟩ => ?_
  cases e with
  | exit i =>
    simp only [joinX] at h1
    split at h1
    · rename_i hi
      subst hi
      obtain ⟨x, q1, q2⟩ := h1
      exact ⟨T x, hQ x q1, h2.le q2⟩
    · exact ⟨s, h1, h2⟩
  | _ => exact ⟨s, h1, h2⟩
end
section
variable {P : Program} {E : Ent} {st : St}
end
section
variable {P : Program} {E : Ent} {st : St}
def St.toOwnC (st : St) (id r j nid sz : Nat) (o : AObj) (row : List D) : St := { (st.bind nid { sz := sz, rows := [] }) with heap := upd (st.bind nid { sz := sz, rows := [] }).heap id { o with rows := o.rows.set r (row.set j (.own nid 0 0)) } }
theorem rep_nilOwn {I : Imm} {ρ : Locs} {x : Value} {id sz : Nat} (h : Rep I ρ (.sl true []) x) (hl : ρ id = some ⟨none, 0, 0, sz⟩) : Rep I ρ (.own id 0 0) x := by
  cases h with
  | nil _ _ ad cap hf =>
    have := hf rfl
    subst this
    have := Rep.own (I := I) ρ id 0 0 ⟨none, 0, 0, sz⟩ ad hl (by simp) (.inl rfl)
    simpa using this
  | sl _ _ _ b o cap sz' c hI hs hc hcap hf h1 hh =>
    have := hf rfl
    simp at this
    subst this
    have := Rep.own (I := I) ρ id 0 0 ⟨none, 0, 0, sz⟩ (some ⟨b, o, none⟩) hl (by simp) (.inl rfl)
    simpa using this
theorem awp_own_nilC {c : Code} {Q : Exit → St → Prop} (id r j nid sz : Nat) {o : AObj} {row : List D} (hsz : 0 < sz) (ho : (st.bind nid { sz := sz, rows := [] }).heap id = some o) (hr : o.rows[r]? = some row) (hj : row[j]? = some (.sl true [])) (hf : o.flat = false)
    (hc : AWP P E c Q (st.toOwnC id r j nid sz o row)) : AWP P E c Q st := by
  refine fun a w hR => hc a w ?_
  obtain ⟨ρ, I, hrb⟩ := hR
  have hl : LaidObj I ρ w { sz := sz, rows := [] } ⟨none, 0, 0, sz⟩ := ⟨rfl, hsz, by simp, by simp, .inl ⟨rfl, rfl⟩⟩
  have h' := hrb.adopt (id := nid) hl (fun b hb => by cases hb) (fun b hb => by cases hb)
  refine ⟨_, I, ⟨h'.size, h'.defers, h'.slots, ⟨fun k o1 hk => ?_, fun i1 o1 l1 i2 o2 l2 b h1 m1 e1 b1 h2 m2 e2 b2 => ?_, h'.mem.imm⟩, h'.i0, h'.i1, h'.ext, fun k o1 l b hk hw hl hb => ?_, fun k o1 hk hp => ?_, h'.mp⟩⟩
  · simp only [St.toOwnC, upd] at hk
    split at hk
    · rename_i e
      subst e
      simp only [Option.some.injEq] at hk
      subst hk
      obtain ⟨l, el, hl⟩ := h'.mem.laid k o ho
      refine ⟨l, el, hl.sz, hl.pos, fun row1 h1 => ?_, by simpa using hl.cap, ?_⟩
      · rcases List.mem_or_eq_of_mem_set h1 with q | q
        · exact hl.rows row1 q
        · subst q
          simpa using hl.rows row (List.mem_of_getElem? hr)
      · rcases hl.mem with g0 | ⟨b, cc, e, lo, hi, g1, g2, g3, g4, g5, g6, hone, g7⟩
        · exact .inl g0
        · refine .inr ⟨b, cc, e, lo, hi, g1, g2, g3, g4, g5, g6, hone, fun i jj row1 d x q1 q2 q3 => ?_⟩
          simp only [hf, Bool.false_eq_true, if_false] at g7 ⊢
          have hrl : r < o.rows.length := by
            rcases Nat.lt_or_ge r o.rows.length with q | q
            · exact q
            · rw [List.getElem?_eq_none q] at hr; cases hr
          have hjl : j < row.length := by
            rcases Nat.lt_or_ge j row.length with q | q
            · exact q
            · rw [List.getElem?_eq_none q] at hj; cases hj
          by_cases ei : r = i
          · subst ei
            rw [List.getElem?_set_self hrl] at q1
            simp only [Option.some.injEq] at q1
            subst q1
            by_cases ej : j = jj
            · subst ej
              rw [List.getElem?_set_self hjl] at q2
              simp only [Option.some.injEq] at q2
              subst q2
              exact rep_nilOwn (g7 r j row _ x hr hj q3) updL_eq
            · rw [List.getElem?_set_ne ej] at q2
              exact g7 r jj row d x hr q2 q3
          · rw [List.getElem?_set_ne ei] at q1
            exact g7 i jj row1 d x q1 q2 q3
    · exact h'.mem.laid k o1 hk
  · have key : ∀ k ox, (st.toOwnC id r j nid sz o row).heap k = some ox → ∃ oy, (st.bind nid { sz := sz, rows := [] }).heap k = some oy ∧ oy.wr = ox.wr := fun k ox hk => by
      simp only [St.toOwnC, upd] at hk
      split at hk
      · rename_i e; subst e; simp only [Option.some.injEq] at hk; subst hk; exact ⟨o, ho, rfl⟩
      · exact ⟨ox, hk, rfl⟩
    obtain ⟨y1, q1, r1⟩ := key _ _ h1
    obtain ⟨y2, q2, r2⟩ := key _ _ h2
    exact h'.mem.apart _ _ _ _ _ _ _ q1 (r1.trans m1) e1 b1 q2 (r2.trans m2) e2 b2
  · simp only [St.toOwnC, upd] at hk
    split at hk
    · rename_i e; subst e; simp only [Option.some.injEq] at hk; subst hk; exact h'.fresh _ _ _ _ ho hw hl hb
    · exact h'.fresh _ _ _ _ hk hw hl hb
  · simp only [St.toOwnC, upd] at hk
    split at hk
    · rename_i e; subst e; simp only [Option.some.injEq] at hk; subst hk; exact h'.pins _ _ ho hp
    · exact h'.pins _ _ hk hp
end
end Go.Ab
