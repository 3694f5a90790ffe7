/-
  ABSTRACT DATA FOR WALKS, 16: regions that draw their order and only look.
-/
import Derived.Test.YtfllndodnhmhkaaAb14
namespace Go.Ab
set_option linter.unusedSimpArgs false
set_option linter.unusedVariables false

def opnds : Op → List Operand
  | .slice _ x l h m => x :: (l.toList ++ h.toList ++ m.toList)
  | .build _ ps => ps.toList.map (·.2)
  | .makeFunc _ first caps => first.toList ++ caps.toList
  | .call c => c.args.toList
  | .pick c a b => [c, a, b]
  | .move x | .assign x | .load _ x | .nilCheck x | .unOp _ _ x | .convert _ _ x | .fieldAddr _ x _ | .field _ x _ | .extract x _ => [x]
  | .binOp _ _ a v _ | .indexAddr _ a v | .index _ a v => [a, v]
  | _ => []

def tmpOf : Operand → List Tmp
  | .tmp t => [t]
  | _ => []

/-- The slots that an operation reads. -/
def readsOf (ops : Array Oper) (o : Oper) : List Tmp :=
  (opnds o.op).flatMap tmpOf ++ (match o.guard with | some (j, _) => (((ops[j]?).bind (·.dst))).toList | none => [])

def clash (ops : Array Oper) (x y : Oper) : Bool :=
  match x.dst, y.dst with
  | some d, some e => d == e || (readsOf ops y).contains d || (readsOf ops x).contains e
  | some d, none => (readsOf ops y).contains d
  | none, some e => (readsOf ops x).contains e
  | none, none => false

/-- Every two operations that touch one slot are ordered by an edge; edges lead back. -/
def lookOp : Op → Bool
  | .alloc _ => false
  | .box _ _ => false
  | .buildSlice _ _ _ => false
  | .makeSlice _ _ _ => false
  | .store _ _ _ => false
  | .call c => match c.callee with
    | .value _ => false
    | .builtin .append => false
    | .builtin .copy => false
    | _ => true
  | _ => true
def calmB (ops : Array Oper) : Bool :=
  !Region.departs ops && (ops.all fun o => lookOp o.op) &&
  (ops.toList.zipIdx.all fun (o, i) => o.after.all (fun e => !Region.binds .any e || decide (e.on < i)) &&
    (ops.toList.zipIdx.all fun (x, k) => !(decide (k < i)) || !clash ops x o || o.after.any fun e => Region.binds .any e && e.on == k))

/-- One operation that only looks. -/
def Look (tt : TypeId → Option TI) (ops : Array Oper) (o : Oper) (s s' : St) : Prop :=
  (s.want ops o = some false ∧ s.fits o.dst = true ∧ s' = s.put o.dst (.v (.tuple #[]))) ∨ (s.want ops o = some true ∧ ∃ p d, val tt s o.op = some (p, d) ∧ p ∧ s.fits o.dst = true ∧ s' = s.put o.dst d)

def aopsL (tt : TypeId → Option TI) (ops : Array Oper) (K : St → Prop) : List Oper → St → Prop
  | [], st => K st
  | o :: rest, st => match st.want ops o with
    | some false => st.fits o.dst = true ∧ aopsL tt ops K rest (st.put o.dst (.v (.tuple #[])))
    | some true => match val tt st o.op with
      | some (p, d) => p ∧ st.fits o.dst = true ∧ aopsL tt ops K rest (st.put o.dst d)
      | none => False
    | none => False

theorem aopsL_nil (tt : TypeId → Option TI) (ops : Array Oper) (K : St → Prop) (st : St) : aopsL tt ops K [] st = K st := rfl

def stepL (tt : TypeId → Option TI) (ops : Array Oper) (st : St) (o : Oper) : Option (Prop × St) := match st.want ops o with
  | some false => some (st.fits o.dst = true, st.put o.dst (.v (.tuple #[])))
  | some true => match val tt st o.op with
    | some (p, d) => some (p ∧ st.fits o.dst = true, st.put o.dst d)
    | none => none
  | none => none
def runL (F : St → Prop) : Option (Prop × St) → Prop
  | some (p, s) => p ∧ F s
  | none => False
theorem runL_some (F : St → Prop) (p : Prop) (s : St) : runL F (some (p, s)) = (p ∧ F s) := rfl
theorem aopsL_cons (tt : TypeId → Option TI) (ops : Array Oper) (K : St → Prop) (o : Oper) (rest : List Oper) (st : St) : aopsL tt ops K (o :: rest) st = runL (aopsL tt ops K rest) (stepL tt ops st o) := by
  simp only [aopsL, stepL]
  split
  · rfl
  · split
    · simp only [runL, and_assoc]
    · rfl
  · rfl

inductive Looks (tt : TypeId → Option TI) (ops : Array Oper) : List Nat → St → St → Prop where
  | nil (s : St) : Looks tt ops [] s s
  | cons (i : Nat) (l : List Nat) (o : Oper) (s s1 s2 : St) (ho : ops[i]? = some o) (h : Look tt ops o s s1) (hs : Looks tt ops l s1 s2) : Looks tt ops (i :: l) s s2

section
variable {P : Program} {E : Ent} {st : St} {a : Act} {w : World} {ρ : Locs} {I : Imm} {tt : TypeId → Option TI} {ops : Array Oper}

/-- Two states that agree on some slots, and on all objects. -/
structure Agree (l : List Tmp) (s s' : St) : Prop where
  n : s'.n = s.n
  heap : s'.heap = s.heap
  slots : ∀ t ∈ l, s'.slots t = s.slots t

theorem ev_agree {s s' : St} {x : Operand} (h : Agree (tmpOf x) s s') : s'.ev x = s.ev x := by
  cases x with
  | tmp t => exact h.slots t (by simp [tmpOf])
  | _ => rfl
theorem Agree.sub {l l' : List Tmp} {s s' : St} (h : Agree l s s') (hl : ∀ t ∈ l', t ∈ l) : Agree l' s s' := ⟨h.n, h.heap, fun t ht => h.slots t (hl t ht)⟩
theorem evL_agree {s s' : St} : ∀ {xs : List Operand}, Agree (xs.flatMap tmpOf) s s' → s'.evL xs = s.evL xs
  | [], _ => rfl
  | x :: xs, h => by
    simp only [St.evL]
    rw [ev_agree (h.sub fun t ht => by simp [ht]), evL_agree (xs := xs) (h.sub fun t ht => by simp only [List.flatMap_cons, List.mem_append]; exact .inr ht)]
theorem evO_agree {s s' : St} {x : Option Operand} (h : Agree (x.toList.flatMap tmpOf) s s') : s'.evO x = s.evO x := by
  cases x with
  | none => rfl
  | some x => simp only [St.evO]; rw [ev_agree (h.sub fun t ht => by simpa using ht)]

theorem rowOf_agree {s s' : St} (h : s'.heap = s.heap) (d : D) : s'.rowOf d = s.rowOf d := by
  cases d <;> simp [St.rowOf, h]
theorem rowsOf_agree {s s' : St} (h : s'.heap = s.heap) (d : D) : s'.rowsOf d = s.rowsOf d := by
  cases d <;> simp [St.rowsOf, h]

theorem val_agree {s s' : St} {o : Op} (h : Agree ((opnds o).flatMap tmpOf) s s') : val tt s' o = val tt s o := by
  have e1 : ∀ x : Operand, x ∈ opnds o → s'.ev x = s.ev x := fun x hx => ev_agree (h.sub fun t ht => List.mem_flatMap.2 ⟨x, hx, ht⟩)
  have eL : ∀ xs : List Operand, (∀ x ∈ xs, x ∈ opnds o) → s'.evL xs = s.evL xs := fun xs hx => evL_agree (h.sub fun t ht => by
    obtain ⟨x, h1, h2⟩ := List.mem_flatMap.1 ht
    exact List.mem_flatMap.2 ⟨x, hx x h1, h2⟩)
  have eO : ∀ x : Option Operand, (∀ y ∈ x.toList, y ∈ opnds o) → s'.evO x = s.evO x := fun x hx => evO_agree (h.sub fun t ht => by
    obtain ⟨y, h1, h2⟩ := List.mem_flatMap.1 ht
    exact List.mem_flatMap.2 ⟨y, hx y h1, h2⟩)
  cases o with
  | move x => simp only [val, e1 x (by simp [opnds])]
  | assign x => simp only [val, e1 x (by simp [opnds])]
  | pick c x y => simp only [val, e1 c (by simp [opnds]), e1 x (by simp [opnds]), e1 y (by simp [opnds])]
  | load T x => simp only [val, e1 x (by simp [opnds]), valLoad, rowOf_agree h.heap]
  | nilCheck x => simp only [val, e1 x (by simp [opnds])]
  | binOp op T x y yt => simp only [val, e1 x (by simp [opnds]), e1 y (by simp [opnds])]
  | unOp op T x => simp only [val, e1 x (by simp [opnds])]
  | convert src dst x => simp only [val, e1 x (by simp [opnds]), valConvert, convBytes, rowsOf_agree h.heap]
  | slice T x lo hi mx => simp only [val, e1 x (by simp [opnds]), eO lo (fun y hy => by simp only [opnds, List.mem_cons, List.mem_append]; exact .inr (.inl (.inl hy))), eO hi (fun y hy => by simp only [opnds, List.mem_cons, List.mem_append]; exact .inr (.inl (.inr hy))), eO mx (fun y hy => by simp only [opnds, List.mem_cons, List.mem_append]; exact .inr (.inr hy)), valSlice, h.heap]
  | fieldAddr S x f => simp only [val, e1 x (by simp [opnds])]
  | field S x f => simp only [val, e1 x (by simp [opnds])]
  | indexAddr T x i => simp only [val, e1 x (by simp [opnds]), e1 i (by simp [opnds]), valIndexAddr, h.heap]
  | index T x i => simp only [val, e1 x (by simp [opnds]), e1 i (by simp [opnds])]
  | extract t k => simp only [val, e1 t (by simp [opnds])]
  | build T parts => simp only [val, eL (parts.toList.map (·.2)) (by simp [opnds])]
  | makeFunc f first caps => simp only [val, eL first.toList (by simp [opnds]; intro x hx; exact .inl hx), eL caps.toList (by simp [opnds]; intro x hx; exact .inr hx)]
  | call c =>
    obtain ⟨callee, args, tys⟩ := c
    simp only [val]
    have ea := eL args.toList (by simp [opnds])
    split
    · rename_i x T hargs htys
      rw [e1 x (by simp [opnds, hargs])]
    · rw [ea]
    · rw [ea]
    · rfl
  | _ => rfl

theorem want_agree {s s' : St} {o : Oper} (h : Agree (readsOf ops o) s s') : s'.want ops o = s.want ops o := by
  unfold St.want
  cases hg : o.guard with
  | none => rfl
  | some q =>
    obtain ⟨j, b⟩ := q
    simp only
    cases hd : (ops[j]?).bind (·.dst) with
    | none => rfl
    | some t =>
      have : s'.slots t = s.slots t := h.slots t (by simp [readsOf, hg, hd])
      simp only [this]

theorem agree_put {s : St} {l : List Tmp} {dst : Option Tmp} {d : D} (h : ∀ t, dst = some t → t ∉ l) : Agree l s (s.put dst d) := by
  cases dst with
  | none => exact ⟨rfl, rfl, fun _ _ => rfl⟩
  | some t => exact ⟨rfl, rfl, fun u hu => by
      have : u ≠ t := fun e => h t rfl (e ▸ hu)
      simp [St.put, upd, this]⟩
theorem Agree.symm {l : List Tmp} {s s' : St} (h : Agree l s s') : Agree l s' s := ⟨h.n.symm, h.heap.symm, fun t ht => (h.slots t ht).symm⟩

theorem fits_put {s : St} {dst dst' : Option Tmp} {d : D} : (s.put dst d).fits dst' = s.fits dst' := by
  cases dst <;> rfl

theorem put_comm {s : St} {a b : Option Tmp} {x y : D} (h : ∀ t, a = some t → b ≠ some t) : (s.put a x).put b y = (s.put b y).put a x := by
  cases a with
  | none => rfl
  | some t =>
    cases b with
    | none => rfl
    | some u =>
      have hne : t ≠ u := fun e => h t rfl (by rw [e])
      simp only [St.put]
      congr 1
      funext k
      simp only [upd]
      by_cases h1 : k = t <;> by_cases h2 : k = u <;> simp [h1, h2]
      · subst h1; exact absurd h2 hne
      · intro e; exact absurd e hne
      · intro e; exact absurd e.symm hne

theorem clash_false {x y : Oper} (h : clash ops x y = false) : (∀ t, x.dst = some t → t ∉ readsOf ops y) ∧ (∀ t, y.dst = some t → t ∉ readsOf ops x) ∧ ∀ t, x.dst = some t → y.dst ≠ some t := by
  unfold clash at h
  cases hx : x.dst <;> cases hy : y.dst <;> simp [hx, hy] at h ⊢
  · exact h
  · exact h
  · exact ⟨h.1.2, h.2, fun e => h.1.1 e.symm⟩

theorem look_out {o : Oper} {s s' : St} (h : Look tt ops o s s') : ∃ d, s' = s.put o.dst d := by
  rcases h with ⟨_, _, e⟩ | ⟨_, p, d, _, _, _, e⟩
  · exact ⟨_, e⟩
  · exact ⟨d, e⟩

theorem look_move {o : Oper} {s s' s1 : St} (h : Look tt ops o s s1) (ha : Agree (readsOf ops o) s s') (hf : s'.fits o.dst = s.fits o.dst) : ∃ d, s1 = s.put o.dst d ∧ Look tt ops o s' (s'.put o.dst d) := by
  have hr : Agree ((opnds o.op).flatMap tmpOf) s s' := ha.sub fun t ht => by simp only [readsOf, List.mem_append]; exact .inl ht
  rcases h with ⟨h1, h2, e⟩ | ⟨h1, p, d, h2, h3, h4, e⟩
  · exact ⟨_, e, .inl ⟨by rw [want_agree ha]; exact h1, by rw [hf]; exact h2, rfl⟩⟩
  · exact ⟨d, e, .inr ⟨by rw [want_agree ha]; exact h1, p, d, by rw [val_agree hr]; exact h2, h3, by rw [hf]; exact h4, rfl⟩⟩

/-- Two operations that touch no slot in common may change places. -/
theorem look_swap {x y : Oper} {s s1 s2 : St} (h1 : Look tt ops x s s1) (h2 : Look tt ops y s1 s2) (hc : clash ops x y = false) : ∃ s1', Look tt ops y s s1' ∧ Look tt ops x s1' s2 := by
  obtain ⟨c1, c2, c3⟩ := clash_false hc
  obtain ⟨dx, rfl⟩ := look_out h1
  obtain ⟨dy, rfl, hy⟩ := look_move h2 (agree_put (d := dx) c1).symm (by rw [fits_put])
  obtain ⟨dx', e, hx⟩ := look_move h1 (agree_put (d := dy) c2) (by rw [fits_put])
  refine ⟨_, hy, ?_⟩
  rw [put_comm c3]
  have : (s.put y.dst dy).put x.dst dx' = (s.put y.dst dy).put x.dst dx := by
    rw [← put_comm c3, ← put_comm c3, e]
  rw [← this]; exact hx

theorem looks_front {i : Nat} {o : Oper} (ho : ops[i]? = some o) : ∀ {pre post : List Nat} {s s' : St}, Looks tt ops (pre ++ i :: post) s s' → (∀ k ∈ pre, ∀ x, ops[k]? = some x → clash ops x o = false) → Looks tt ops (i :: (pre ++ post)) s s'
  | [], post, s, s', h, _ => h
  | k :: pre, post, s, s', h, hc => by
    cases h with
    | cons _ _ x _ s1 _ hx h1 h2 =>
      have := looks_front ho h2 (fun k' hk' => hc k' (by simp [hk']))
      cases this with
      | cons _ _ o' _ s2 _ ho' g1 g2 =>
        rw [ho] at ho'; cases ho'
        obtain ⟨s1', r1, r2⟩ := look_swap h1 g1 (hc k (by simp) x hx)
        exact .cons i _ o s s1' s' ho r1 (.cons k _ x s1' s2 s' hx r2 g2)

theorem aopsL_looks {K : St → Prop} : ∀ (l : List Oper) (k : Nat) (s : St), ops.toList.drop k = l → aopsL tt ops K l s → ∃ s', Looks tt ops ((List.range ops.size).drop k) s s' ∧ K s'
  | [], k, s, hl, h => by
    have : ops.size ≤ k := by have := congrArg List.length hl; simp at this; omega
    rw [List.drop_of_length_le (by simpa using this)]
    exact ⟨s, .nil s, h⟩
  | o :: rest, k, s, hl, h => by
    have hk : k < ops.size := by have := congrArg List.length hl; simp at this; omega
    have hok : ops[k]? = some o := by
      have := congrArg (·[0]?) hl
      simpa using this
    have hrest : ops.toList.drop (k + 1) = rest := by rw [← List.drop_drop, hl]; rfl
    have hrange : (List.range ops.size).drop k = k :: (List.range ops.size).drop (k + 1) := by
      rw [List.drop_eq_getElem_cons (by simpa using hk)]; simp
    rw [hrange]
    simp only [aopsL] at h
    split at h
    · rename_i hw
      obtain ⟨s', q1, q2⟩ := aopsL_looks rest (k + 1) _ hrest h.2
      exact ⟨s', .cons k _ o s _ s' hok (.inl ⟨hw, h.1, rfl⟩) q1, q2⟩
    · rename_i hw
      split at h
      · rename_i p d hv
        obtain ⟨s', q1, q2⟩ := aopsL_looks rest (k + 1) _ hrest h.2.2
        exact ⟨s', .cons k _ o s _ s' hok (.inr ⟨hw, p, d, hv, h.1, h.2.1, rfl⟩) q1, q2⟩
      · exact h.elim
    · exact h.elim

theorem wpOps_looks (ht : TTok P tt) {Q : Exit → Act → World → Prop} {K : St → Prop} (hK : ∀ st' a' w', K st' → R E st' a' w' → Q .normal a' w') {l : List Nat} {s s' : St} (h : Looks tt ops l s s') :
    ∀ (a : Act) (w : World), K s' → R E s a w → wpOps P ops Q l a w := by
  induction h with
  | nil s => exact fun a w hk hR => hK s a w hk hR
  | cons i l o s s1 s2 ho hl _ ih =>
    intro a w hk ⟨ρ, I, hrb⟩
    simp only [wpOps, ho]
    rcases hl with ⟨h1, h2, rfl⟩ | ⟨h1, p, d, h2, h3, h4, rfl⟩
    · rw [hrb.want h1]
      simp only [Bool.false_eq_true, if_false]
      exact ih _ _ hk ⟨ρ, I, hrb.put h2 (.v _ _)⟩
    · rw [hrb.want h1]
      simp only [if_true]
      left
      obtain ⟨z, z1, z2⟩ := hrb.val ht h2 h3
      unfold Oper.wp
      rw [z1]
      exact ih _ _ hk ⟨ρ, I, hrb.put h4 z2⟩

/-- What the drawing leaves: any order of what is left, in the text's order. -/
theorem looks_drawn (hc : calmB ops = true) : ∀ (fuel t : Nat) (listed : Array Bool) (acc : List Nat) (s s' : St), listed.size = ops.size →
    ((List.range ops.size).filter fun i => !listed.getD i true).length = fuel → Looks tt ops ((List.range ops.size).filter fun i => !listed.getD i true) s s' →
    ∃ l, Region.linearise.go .any ops fuel t listed acc = acc.reverse ++ l ∧ Looks tt ops l s s' := by
  intro fuel
  induction fuel with
  | zero =>
    intro t listed acc s s' hsz hlen h
    have : ((List.range ops.size).filter fun i => !listed.getD i true) = [] := List.eq_nil_of_length_eq_zero hlen
    rw [this] at h
    exact ⟨[], by simp [Region.linearise.go], h⟩
  | succ fuel ih =>
    intro t listed acc s s' hsz hlen h
    have hcalm := hc
    simp only [calmB, Bool.and_eq_true, List.all_eq_true, Bool.or_eq_true] at hcalm
    obtain ⟨⟨_, _⟩, hcalm⟩ := hcalm
    have hmem : ∀ i o, ops[i]? = some o → (o, i) ∈ ops.toList.zipIdx := fun i o ho => by
      rw [List.mem_zipIdx_iff_getElem?]; simpa using ho
    generalize hR : ((List.range ops.size).filter fun i => !listed.getD i true) = Rl at h hlen
    have hRmem : ∀ i, i ∈ Rl ↔ i < ops.size ∧ listed.getD i true = false := fun i => by rw [← hR]; simp
    -- those that may come next
    generalize hrs : ((List.range ops.size).filter fun i => !listed.getD i true && ((ops[i]?).map (·.after.all fun e => !Region.binds .any e || listed.getD e.on false)).getD false) = rs
    have hrsne : rs ≠ [] := by
      -- the first that is left
      match Rl, hR, hlen with
      | k :: Rt, hR, hlen =>
        have hk : k ∈ (List.range ops.size).filter fun i => !listed.getD i true := by rw [hR]; simp
        have hk2 : k < ops.size ∧ listed.getD k true = false := by simpa using hk
        have hmin : ∀ j, j < k → listed.getD j false = true := by
          intro j hj
          cases hl : listed.getD j true with
          | true =>
            have hjl : j < listed.size := by omega
            simp only [Array.getD_eq_getD_getElem?, Array.getElem?_eq_getElem hjl, Option.getD_some] at hl ⊢
            exact hl
          | false =>
            exfalso
            have hj1 : j ∈ (List.range ops.size).filter fun i => !listed.getD i true := List.mem_filter.2 ⟨List.mem_range.2 (by have := hk2.1; omega), by rw [hl]; rfl⟩
            have hsorted : ((List.range ops.size).filter fun i => !listed.getD i true).Pairwise (· < ·) := List.Pairwise.filter _ List.pairwise_lt_range
            rw [hR] at hj1 hsorted
            rcases List.mem_cons.1 hj1 with e | e
            · omega
            · have := (List.pairwise_cons.1 hsorted).1 j e; omega
        obtain ⟨o, ho⟩ : ∃ o, ops[k]? = some o := ⟨_, Array.getElem?_eq_getElem hk2.1⟩
        have hin : k ∈ rs := by
          rw [← hrs]
          simp only [List.mem_filter, List.mem_range, Bool.and_eq_true, Bool.not_eq_true', hk2.2, ho, Option.map_some, Option.getD_some, true_and]
          refine ⟨hk2.1, ?_⟩
          have := (hcalm (o, k) (hmem k o ho)).1
          rw [Array.all_eq_true_iff_forall_mem] at this ⊢
          intro e he
          have := this e he
          simp only [Bool.or_eq_true, decide_eq_true_eq] at this ⊢
          rcases this with q | q
          · exact .inl q
          · exact .inr (hmin _ q)
        intro e; rw [e] at hin; simp at hin
    have hlt : t % rs.length < rs.length := Nat.mod_lt _ (List.length_pos_iff.2 hrsne)
    have hget : rs[t % rs.length]? = some (rs[t % rs.length]'hlt) := List.getElem?_eq_getElem hlt
    generalize hi : rs[t % rs.length]'hlt = i at hget
    have hi_in : i ∈ rs := by rw [← hi]; exact List.getElem_mem hlt
    rw [← hrs] at hi_in
    simp only [List.mem_filter, List.mem_range, Bool.and_eq_true, Bool.not_eq_true'] at hi_in
    obtain ⟨hi1, hi2, hi3⟩ := hi_in
    obtain ⟨o, ho⟩ : ∃ o, ops[i]? = some o := ⟨_, Array.getElem?_eq_getElem hi1⟩
    rw [ho] at hi3
    simp only [Option.map_some, Option.getD_some] at hi3
    have hiR : i ∈ Rl := (hRmem i).2 ⟨hi1, hi2⟩
    obtain ⟨pre, post, hsplit⟩ := List.append_of_mem hiR
    have hsorted : Rl.Pairwise (· < ·) := by rw [← hR]; exact List.Pairwise.filter _ List.pairwise_lt_range
    rw [hsplit] at h hsorted
    have hfront := looks_front ho h (fun k hk x hx => by
      have hki : k < i := by
        have := List.pairwise_append.1 hsorted
        exact this.2.2 k hk i (by simp)
      have hkR : k ∈ Rl := by rw [hsplit]; simp [hk]
      have hkl := ((hRmem k).1 hkR).2
      have := (hcalm (o, i) (hmem i o ho)).2 (x, k) (hmem k x hx)
      simp only [Bool.not_eq_true', decide_eq_false_iff_not] at this
      rcases this with (q | q) | q
      · exact absurd hki q
      · exact q
      · exfalso
        rw [Array.any_eq_true'] at q
        obtain ⟨e, he, q⟩ := q
        simp only [Bool.and_eq_true, beq_iff_eq] at q
        have := (Array.all_eq_true_iff_forall_mem.1 hi3) e he
        simp only [q.1, Bool.not_true, Bool.false_or, q.2] at this
        have hkb : k < listed.size := by have := ((hRmem k).1 hkR).1; omega
        simp only [Array.getD_eq_getD_getElem?, Array.getElem?_eq_getElem hkb, Option.getD_some] at this hkl
        rw [this] at hkl; cases hkl)
    cases hfront with
    | cons _ _ o' _ s1 _ ho' g1 g2 =>
      rw [ho] at ho'; cases ho'
      have hRl' : ((List.range ops.size).filter fun j => !(listed.setIfInBounds i true).getD j true) = pre ++ post := by
        have e1 : ((List.range ops.size).filter fun j => !(listed.setIfInBounds i true).getD j true) = Rl.filter (· != i) := by
          rw [← hR, List.filter_filter]
          apply List.filter_congr
          intro j hj
          simp only [Array.getD_eq_getD_getElem?, Array.getElem?_setIfInBounds]
          have hil : i < listed.size := by omega
          by_cases hji : j = i
          · subst hji; simp [hil]
          · have : ¬ i = j := fun e => hji e.symm
            simp [this, hji]
        rw [e1, hsplit, List.filter_append]
        have hnd := hsorted.imp (fun {a b} (h : a < b) => Nat.ne_of_lt h)
        have hp := List.pairwise_append.1 hnd
        have h1 : pre.filter (· != i) = pre := List.filter_eq_self.2 fun k hk => by simpa using hp.2.2 k hk i (by simp)
        have h2 : (i :: post).filter (· != i) = post := by
          rw [List.filter_cons]
          simp
          intro k hk
          have := (List.pairwise_cons.1 hp.2.1).1 k hk
          exact fun e => this e.symm
        rw [h1, h2]
      have hlen' : ((List.range ops.size).filter fun j => !(listed.setIfInBounds i true).getD j true).length = fuel := by
        rw [hRl']
        have := congrArg List.length hsplit
        simp at this ⊢; omega
      obtain ⟨l, r1, r2⟩ := ih (t / rs.length) (listed.setIfInBounds i true) (i :: acc) s1 s' (by simpa using hsz) hlen' (by rw [hRl']; exact g2)
      refine ⟨i :: l, ?_, .cons i l o s s1 s' ho g1 r2⟩
      simp only [Region.linearise.go, hrs, hget]
      rw [r1]; simp

theorem looks_schedule (hc : calmB ops = true) (mixed : Bool) (t : Nat) {s s' : St} (h : Looks tt ops (List.range ops.size) s s') : Looks tt ops (Region.schedule mixed ops t) s s' := by
  have hd : Region.departs ops = false := by
    simp only [calmB, Bool.and_eq_true, Bool.not_eq_true'] at hc
    exact hc.1.1
  have hall : ((List.range ops.size).filter fun i => !(Array.replicate ops.size false).getD i true) = List.range ops.size := by
    apply List.filter_eq_self.2
    intro i hi
    simp only [List.mem_range] at hi
    simp [Array.getD_eq_getD_getElem?, Array.getElem?_replicate, hi]
  obtain ⟨l, h1, h2⟩ := looks_drawn hc ops.size t (Array.replicate ops.size false) [] s s' (by simp) (by rw [hall]; simp) (by rw [hall]; exact h)
  unfold Region.schedule
  rw [hd]
  simp only [Bool.not_false, Bool.or_true, if_true, Region.linearise]
  rw [h1]
  simpa using h2

/-- A region that draws its order, and only looks. -/
theorem awp_draw {Q : Exit → St → Prop} (ht : TTok P tt) {rid : Nat} (hc : calmB ops = true) (h : aopsL tt ops (fun st' => Q .normal st') ops.toList st) : AWP P E (.region rid ops true) Q st := by
  intro a w hR
  refine wp_region_draw fun t => ?_
  obtain ⟨s', h1, h2⟩ := aopsL_looks ops.toList 0 st (by simp) h
  have h1 : Looks tt ops (List.range ops.size) st s' := by simpa using h1
  refine wpOps_looks ht (Q := fun e a' w' => ∃ st', Q e st' ∧ R E st' a' w') (K := fun st' => Q .normal st') (fun st' a' w' q r => ⟨st', q, r⟩) (looks_schedule hc _ t h1) a _ h2 ?_
  obtain ⟨ρ, I, hrb⟩ := hR
  exact ⟨ρ, I, hrb.drew⟩

end
end Go.Ab
