/-
  ABSTRACT DATA FOR WALKS, 17: regions that draw their order and write: effects in a chain; what may stand on either side of one is looked at on both.
-/
import Derived.Test.YtfllndodnhmhkaaAb16
namespace Go.Ab
set_option linter.unusedSimpArgs false
set_option linter.unusedVariables false

def calleeOf : Callee → List Operand
  | .value f => [f]
  | _ => []

def opndsE : Op → List Operand
  | .box _ x => [x]
  | .buildSlice _ _ ps => ps.toList.map (·.2)
  | .makeSlice _ l c => [l, c]
  | .store _ ad x => [ad, x]
  | .call c => calleeOf c.callee ++ c.args.toList
  | o => opnds o

/-- The slots that an operation reads. -/
def readsE (ops : Array Oper) (o : Oper) : List Tmp :=
  (opndsE o.op).flatMap tmpOf ++ (match o.guard with | some (j, _) => (((ops[j]?).bind (·.dst))).toList | none => [])

def killsD : List Nat → D → D
  | [], d => d
  | k :: K, d => D.kill k (killsD K d)

theorem killsS_at : ∀ (K : List Nat) (f : Nat → Option D) (t : Nat), killsS K f t = (f t).map (killsD K)
  | [], f, t => by cases h : f t <;> simp [killsS, killsD, h]
  | k :: K, f, t => by
    simp only [killsS, killS, killsS_at K f t]
    cases f t <;> simp [killsD]

/-- What an operation comes to: objects struck, the objects then, what is in its slot. -/
def app (s : St) (K : List Nat) (h : Nat → Option AObj) (dst : Option Tmp) (d : D) : St := ({ s with slots := killsS K s.slots, heap := h } : St).put dst d

theorem app_look (s : St) (dst : Option Tmp) (d : D) : app s [] s.heap dst d = s.put dst d := rfl
theorem app_n (s : St) (K : List Nat) (h : Nat → Option AObj) (dst : Option Tmp) (d : D) : (app s K h dst d).n = s.n := by cases dst <;> rfl
theorem app_heap (s : St) (K : List Nat) (h : Nat → Option AObj) (dst : Option Tmp) (d : D) : (app s K h dst d).heap = h := by cases dst <;> rfl
theorem app_slot (s : St) (K : List Nat) (h : Nat → Option AObj) (dst : Option Tmp) (d : D) (t : Nat) (ht : ∀ u, dst = some u → t ≠ u) : (app s K h dst d).slots t = (s.slots t).map (killsD K) := by
  cases dst with
  | none => exact killsS_at K s.slots t
  | some u =>
    have := ht u rfl
    simp only [app, St.put, upd, this, if_false]
    exact killsS_at K s.slots t
theorem put_n (s : St) (dst : Option Tmp) (d : D) : (s.put dst d).n = s.n := by cases dst <;> rfl
theorem put_heap (s : St) (dst : Option Tmp) (d : D) : (s.put dst d).heap = s.heap := by cases dst <;> rfl
theorem put_slot (s : St) (dst : Option Tmp) (d : D) (t : Nat) (ht : ∀ u, dst = some u → t ≠ u) : (s.put dst d).slots t = s.slots t := by
  cases dst with
  | none => rfl
  | some u => simp [St.put, upd, ht u rfl]
theorem put_at (s : St) (t : Nat) (d : D) : (s.put (some t) d).slots t = some d := by simp [St.put, upd]

section
variable {P : Program} {E : Ent} {st : St} {a : Act} {w : World} {ρ : Locs} {I : Imm} {tt : TypeId → Option TI} {ops : Array Oper}

def AStep (P : Program) (E : Ent) (ops : Array Oper) (k : Nat) (s s1 : St) : Prop :=
  ∀ (rest : List Nat) (Q : Exit → Act → World → Prop) (a : Act) (w : World), R E s a w → (∀ a' w', R E s1 a' w' → wpOps P ops Q rest a' w') → wpOps P ops Q (k :: rest) a w

/-- The same wherever its slots and the objects are the same. -/
def Uni (P : Program) (E : Ent) (ops : Array Oper) (k : Nat) (o : Oper) (s : St) (K : List Nat) (h : Nat → Option AObj) (d : D) : Prop :=
  ∀ s', Agree (readsE ops o) s s' → AStep P E ops k s' (app s' K h o.dst d)

theorem Agree.rfl' {l : List Tmp} {s : St} : Agree l s s := ⟨rfl, rfl, fun _ _ => rfl⟩
theorem Agree.trans {l : List Tmp} {s s' s'' : St} (h : Agree l s s') (g : Agree l s' s'') : Agree l s s'' := ⟨g.n.trans h.n, g.heap.trans h.heap, fun t ht => (g.slots t ht).trans (h.slots t ht)⟩
theorem Uni.agree {k : Nat} {o : Oper} {s s0 : St} {K : List Nat} {h : Nat → Option AObj} {d : D} (u : Uni P E ops k o s K h d) (ha : Agree (readsE ops o) s s0) : Uni P E ops k o s0 K h d := fun s' hs => u s' (ha.trans hs)

theorem opnds_sub (o : Op) : ∀ x ∈ opnds o, x ∈ opndsE o := by
  intro x hx
  cases o <;> first | exact hx | (simp only [opnds, opndsE, List.not_mem_nil] at hx ⊢; done) | skip
  case call c => simp only [opnds, opndsE, List.mem_append] at hx ⊢; exact .inr hx

theorem reads_sub {o : Oper} {s s' : St} (h : Agree (readsE ops o) s s') : Agree (readsOf ops o) s s' := h.sub fun t ht => by
  simp only [readsOf, readsE, List.mem_append, List.mem_flatMap] at ht ⊢
  rcases ht with ⟨x, h1, h2⟩ | h1
  · exact .inl ⟨x, opnds_sub _ x h1, h2⟩
  · exact .inr h1
theorem reads_opnds {o : Oper} {s s' : St} (h : Agree (readsE ops o) s s') : Agree ((opndsE o.op).flatMap tmpOf) s s' := h.sub fun t ht => by
  simp only [readsE, List.mem_append]; exact .inl ht

theorem look_uni (ht : TTok P tt) {k : Nat} {o : Oper} {s : St} {p : Prop} {d : D} (ho : ops[k]? = some o) (hw : s.want ops o = some true) (hv : val tt s o.op = some (p, d)) (hp : p) (hf : s.fits o.dst = true) : Uni P E ops k o s [] s.heap d := by
  intro s' ha rest Q a w ⟨ρ, I, hrb⟩ hrest
  have ha2 := reads_sub ha
  have hr : Agree ((opnds o.op).flatMap tmpOf) s s' := ha2.sub fun t ht => by simp only [readsOf, List.mem_append]; exact .inl ht
  have hf' : s'.fits o.dst = true := by cases hd : o.dst <;> simp [St.fits, hd, ha.n] at hf ⊢; exact hf
  simp only [wpOps, ho]
  rw [hrb.want (by rw [want_agree ha2]; exact hw)]
  simp only [if_true]
  left
  obtain ⟨z, z1, z2⟩ := hrb.val ht (by rw [val_agree hr]; exact hv) hp
  unfold Oper.wp
  rw [z1]
  refine hrest _ _ ?_
  rw [← ha.heap, app_look]
  exact ⟨ρ, I, hrb.put hf' z2⟩

theorem skip_uni {k : Nat} {o : Oper} {s : St} (ho : ops[k]? = some o) (hw : s.want ops o = some false) (hf : s.fits o.dst = true) : Uni P E ops k o s [] s.heap (.v (.tuple #[])) := by
  intro s' ha rest Q a w ⟨ρ, I, hrb⟩ hrest
  have ha2 := reads_sub ha
  have hf' : s'.fits o.dst = true := by cases hd : o.dst <;> simp [St.fits, hd, ha.n] at hf ⊢; exact hf
  simp only [wpOps, ho]
  rw [hrb.want (by rw [want_agree ha2]; exact hw)]
  simp only [Bool.false_eq_true, if_false]
  refine hrest _ _ ?_
  rw [← ha.heap, app_look]
  exact ⟨ρ, I, hrb.put hf' (.v _ _)⟩

/-! ### effects are the same wherever slots and objects are the same -/

def SameAs (s s' : St) (K : List Nat) (h : Nat → Option AObj) : St := { s' with slots := killsS K s'.slots, heap := h }

theorem hop_agree {id : Nat} {s : St} {o : Op} {p : Prop} {s1 : St} {d : D} (hv : hop tt id s o = some (p, s1, d)) :
    ∃ K h, ∀ s', Agree ((opndsE o).flatMap tmpOf) s s' → hop tt id s' o = some (p, { s' with slots := killsS K s'.slots, heap := h }, d) := by
  have e1 : ∀ s', Agree ((opndsE o).flatMap tmpOf) s s' → ∀ x : Operand, x ∈ opndsE o → s'.ev x = s.ev x := fun s' h x hx => ev_agree (h.sub fun t ht => List.mem_flatMap.2 ⟨x, hx, ht⟩)
  have eL : ∀ s', Agree ((opndsE o).flatMap tmpOf) s s' → ∀ xs : List Operand, (∀ x ∈ xs, x ∈ opndsE o) → s'.evL xs = s.evL xs := fun s' h xs hx => evL_agree (h.sub fun t ht => by
    obtain ⟨x, h1, h2⟩ := List.mem_flatMap.1 ht
    exact List.mem_flatMap.2 ⟨x, hx x h1, h2⟩)
  cases o <;> simp only [hop] at hv <;> try (cases hv; done)
  case binOp op T x y yt =>
    have hx : ∀ s', Agree ((opndsE (.binOp op T x y yt)).flatMap tmpOf) s s' → s'.ev x = s.ev x := fun s' ha => e1 s' ha x (by simp [opndsE, opnds])
    unfold hopNil at hv
    split at hv
    · rename_i he
      split at hv
      · rename_i e hT
        split at hv <;> simp only [Option.some.injEq, Prod.mk.injEq, reduceCtorEq] at hv
        · obtain ⟨rfl, hs1, rfl⟩ := hv
          refine ⟨[], s.heap, fun s' ha => ?_⟩
          simp only [hop, hx s' ha, he, hopNil, hT, killsS, ← ha.heap]
        · obtain ⟨rfl, hs1, rfl⟩ := hv
          refine ⟨[], s.heap, fun s' ha => ?_⟩
          simp only [hop, hx s' ha, he, hopNil, hT, killsS, ← ha.heap]
      · cases hv
    · cases hv
  case alloc T =>
    simp only [hopAlloc] at hv
    split at hv
    · rename_i ti hT
      simp only [Option.some.injEq, Prod.mk.injEq] at hv
      obtain ⟨rfl, hs1, rfl⟩ := hv
      refine ⟨[id], s1.heap, fun s' ha => ?_⟩
      subst hs1
      simp only [hop, hopAlloc, hT, St.bind, ha.heap, killsS]
    · cases hv
  case box T x =>
    split at hv
    · rename_i dx hx
      simp only [hopBox] at hv
      split at hv
      · rename_i ti hT
        simp only [Option.some.injEq, Prod.mk.injEq] at hv
        obtain ⟨rfl, hs1, rfl⟩ := hv
        refine ⟨[id], s1.heap, fun s' ha => ?_⟩
        subst hs1
        simp only [hop, e1 s' ha x (by simp [opndsE]), hx, hopBox, hT, St.bind, ha.heap, killsS]
      · cases hv
    · cases hv
  case buildSlice T len parts =>
    split at hv
    · rename_i ds hds
      simp only [hopBuildSlice] at hv
      split at hv
      · rename_i e he
        split at hv
        · rename_i ei ids p ds' hei hpur
          simp only [Option.some.injEq, Prod.mk.injEq] at hv
          obtain ⟨rfl, hs1, rfl⟩ := hv
          refine ⟨[id], s1.heap, fun s' ha => ?_⟩
          subst hs1
          simp only [hop, eL s' ha (parts.toList.map (·.2)) (by simp [opndsE]), hds, hopBuildSlice, he, hei, ha.heap, hpur, St.bind, St.freeze, killsS]
        · cases hv
      · cases hv
    · cases hv
  case makeSlice T l c =>
    split at hv
    · rename_i dl dc hl hc
      unfold hopMakeSlice at hv
      split at hv
      · split at hv
        · rename_i e he
          split at hv
          · rename_i ei hei
            simp only [Option.some.injEq, Prod.mk.injEq] at hv
            obtain ⟨rfl, hs1, rfl⟩ := hv
            refine ⟨[id], s1.heap, fun s' ha => ?_⟩
            subst hs1
            simp only [hop, e1 s' ha l (by simp [opndsE]), e1 s' ha c (by simp [opndsE]), hl, hc, hopMakeSlice, he, hei, St.bind, ha.heap, killsS]
          · cases hv
        · cases hv
      · cases hv
    · cases hv
  case store T ad x =>
    split at hv
    · rename_i da dx hda hdx
      unfold hopStore at hv
      split at hv
      · rename_i ti oid i k hT
        split at hv
        · rename_i o0 ho0
          split at hv
          · rename_i ids p d' hpur
            split at hv
            · rename_i o hof
              simp only [Option.some.injEq, Prod.mk.injEq] at hv
              obtain ⟨rfl, hs1, rfl⟩ := hv
              refine ⟨[], s1.heap, fun s' ha => ?_⟩
              subst hs1
              have hfz : (s'.freeze ids).heap = (s.freeze ids).heap := by simp only [St.freeze, ha.heap]
              simp only [hop, e1 s' ha ad (by simp [opndsE]), e1 s' ha x (by simp [opndsE]), hda, hdx, hopStore, hT, ha.heap, ho0, hpur, hfz, hof, killsS]
              rfl
            · cases hv
          · cases hv
        · cases hv
      · cases hv
    · cases hv
  case convert src dst x =>
    split at hv
    · rename_i dx hx
      unfold hopConv at hv
      split at hv
      · split at hv
        · rename_i e o hs ho
          split at hv
          · rename_i ei hei
            split at hv
            · rename_i hk
              simp only [Option.some.injEq, Prod.mk.injEq] at hv
              obtain ⟨rfl, hs1, rfl⟩ := hv
              refine ⟨[], s1.heap, fun s' ha => ?_⟩
              subst hs1
              simp only [hop, e1 s' ha x (by simp [opndsE, opnds]), hx, hopConv, hs, ha.heap, ho, hei, hk, killsS]
              rw [← ha.heap]
            · cases hv
          · cases hv
        · cases hv
      · rename_i hno
        unfold hopBytes at hv
        split at hv
        · split at hv
          · rename_i e hs hd
            split at hv
            · rename_i ei hei
              split at hv
              · rename_i hk
                simp only [Option.some.injEq, Prod.mk.injEq] at hv
                obtain ⟨rfl, hs1, rfl⟩ := hv
                refine ⟨[id], s1.heap, fun s' ha => ?_⟩
                subst hs1
                simp only [hop, e1 s' ha x (by simp [opndsE, opnds]), hx, hopConv, hopBytes, hs, hd, hei, hk, St.bind, ha.heap, killsS]
              · cases hv
            · cases hv
          · cases hv
        · cases hv
    · cases hv
  case call c =>
    obtain ⟨callee, args, argTypes⟩ := c
    simp only at hv
    split at hv
    · rename_i sx xx T X hargs htys
      split at hv
      · rename_i ds dx hds hdx
        unfold hopAppend at hv
        split at hv
        · rename_i e he
          split at hv
          · rename_i ei hei
            split at hv
            · rename_i p2 rows2 hsrc
              have hsrc' : ∀ s', Agree ((opndsE (.call ⟨.builtin .append, args, argTypes⟩)).flatMap tmpOf) s s' → srcD tt s' X ei dx = some (p2, rows2) := fun s' ha => by
                rw [← hsrc]
                unfold srcD
                simp only [ha.heap]
              split at hv
              · simp only [Option.some.injEq, Prod.mk.injEq] at hv
                obtain ⟨rfl, hs1, rfl⟩ := hv
                refine ⟨[id], s1.heap, fun s' ha => ?_⟩
                subst hs1
                simp only [hop, hargs, htys, e1 s' ha sx (by simp [opndsE, calleeOf, hargs]), e1 s' ha xx (by simp [opndsE, calleeOf, hargs]), hds, hdx, hopAppend, he, hei, hsrc' s' ha, St.bind, ha.heap, killsS]
              · rename_i oid off len
                split at hv
                · rename_i o ho
                  simp only [Option.some.injEq, Prod.mk.injEq] at hv
                  obtain ⟨rfl, hs1, rfl⟩ := hv
                  refine ⟨[oid], s1.heap, fun s' ha => ?_⟩
                  subst hs1
                  simp only [hop, hargs, htys, e1 s' ha sx (by simp [opndsE, calleeOf, hargs]), e1 s' ha xx (by simp [opndsE, calleeOf, hargs]), hds, hdx, hopAppend, he, hei, hsrc' s' ha, St.bind, ha.heap, ho, killsS]
                · cases hv
              · cases hv
            · cases hv
          · cases hv
        · cases hv
      · cases hv
    · rename_i sx xx T X hargs htys
      split at hv
      · rename_i ds dx hds hdx
        unfold hopCopy at hv
        split at hv
        · rename_i e he
          split at hv
          · rename_i ei hei hXi
            split at hv
            · rename_i p2 rows2 hsrc
              have hsrc' : ∀ s', Agree ((opndsE (.call ⟨.builtin .copy, args, argTypes⟩)).flatMap tmpOf) s s' → srcD tt s' X ei dx = some (p2, rows2) := fun s' ha => by
                rw [← hsrc]
                unfold srcD
                simp only [ha.heap]
              split at hv
              · split at hv
                · rename_i o ho
                  simp only [Option.some.injEq, Prod.mk.injEq] at hv
                  obtain ⟨rfl, hs1, rfl⟩ := hv
                  refine ⟨[], s1.heap, fun s' ha => ?_⟩
                  subst hs1
                  simp only [hop, hargs, htys, e1 s' ha sx (by simp [opndsE, calleeOf, hargs]), e1 s' ha xx (by simp [opndsE, calleeOf, hargs]), hds, hdx, hopCopy, he, hei, hXi, hsrc' s' ha, ha.heap, ho, killsS]
                · cases hv
              · cases hv
            · cases hv
          · cases hv
        · cases hv
      · cases hv
    · cases hv

end
end Go.Ab
