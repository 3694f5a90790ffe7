/-
  ABSTRACT DATA FOR WALKS, 19: regions that draw their order and write, 3: schedules.
-/
import Derived.Test.YtfllndodnhmhkaaAb18
namespace Go.Ab
set_option linter.unusedSimpArgs false
set_option linter.unusedVariables false

abbrev Ord := List (Nat × Option (List Nat))

/-! ### what must stand ahead of an operation -/

def ancRow (acc : List Nat) (o : Oper) : Nat := o.after.toList.foldl (fun m e => if Region.binds .any e = true then m ||| (1 <<< e.on) ||| acc.getD e.on 0 else m) 0
def ancsGo : List Oper → List Nat → List Nat
  | [], acc => acc
  | o :: l, acc => ancsGo l (acc ++ [ancRow acc o])
def anc (A : List Nat) (i k : Nat) : Bool := (A.getD i 0).testBit k

/-- What is done holds all that must stand ahead of it. -/
def Closed (ops : Array Oper) (done : Nat → Bool) : Prop := ∀ j o e, done j = true → ops[j]? = some o → e ∈ o.after → Region.binds .any e = true → done e.on = true
def Ready (ops : Array Oper) (done : Nat → Bool) (i : Nat) : Prop := ∀ o e, ops[i]? = some o → e ∈ o.after → Region.binds .any e = true → done e.on = true

theorem ancRow_bit {acc : List Nat} {k : Nat} : ∀ {es : List Edge} {m : Nat}, (es.foldl (fun m e => if Region.binds .any e = true then m ||| (1 <<< e.on) ||| acc.getD e.on 0 else m) m).testBit k = true →
    m.testBit k = true ∨ ∃ e ∈ es, Region.binds .any e = true ∧ (e.on = k ∨ (acc.getD e.on 0).testBit k = true)
  | [], m, h => .inl h
  | e :: es, m, h => by
    simp only [List.foldl_cons] at h
    rcases ancRow_bit h with h1 | ⟨e', q1, q2, q3⟩
    · split at h1
      · rename_i hb
        simp only [Nat.testBit_or, Bool.or_eq_true] at h1
        rcases h1 with (h1 | h1) | h1
        · exact .inl h1
        · refine .inr ⟨e, by simp, hb, .inl ?_⟩
          rw [Nat.one_shiftLeft, Nat.testBit_two_pow] at h1
          exact of_decide_eq_true h1
        · exact .inr ⟨e, by simp, hb, .inr h1⟩
      · exact .inl h1
    · exact .inr ⟨e', by simp [q1], q2, q3⟩

def AncOk (ops : Array Oper) (acc : List Nat) : Prop := ∀ i k, anc acc i k = true → ∀ done, Closed ops done → Ready ops done i → done k = true

theorem ancsGo_ok {ops : Array Oper} : ∀ (l : List Oper) (acc : List Nat), ops.toList.drop acc.length = l → AncOk ops acc → AncOk ops (ancsGo l acc)
  | [], acc, _, h => h
  | o :: l, acc, hl, h => by
    simp only [ancsGo]
    have ho : ops[acc.length]? = some o := by
      have := congrArg (·[0]?) hl
      simpa using this
    refine ancsGo_ok l _ (by rw [List.length_append, ← List.drop_drop, hl]; rfl) ?_
    intro i k hk done hc hr
    unfold anc at hk
    by_cases hi : i < acc.length
    · have e : (acc ++ [ancRow acc o]).getD i 0 = acc.getD i 0 := by simp [List.getD, List.getElem?_append_left hi]
      rw [e] at hk
      exact h i k hk done hc hr
    · by_cases hi2 : i = acc.length
      · subst hi2
        have e : (acc ++ [ancRow acc o]).getD acc.length 0 = ancRow acc o := by simp [List.getD]
        rw [e] at hk
        rcases ancRow_bit hk with q | ⟨e', q1, q2, q3⟩
        · simp at q
        · have hd := hr o e' ho (by simpa using q1) q2
          rcases q3 with q3 | q3
          · exact q3 ▸ hd
          · exact h e'.on k q3 done hc (fun o2 e2 g1 g2 g3 => hc e'.on o2 e2 hd g1 g2 g3)
      · have e : (acc ++ [ancRow acc o]).getD i 0 = 0 := by
          simp [List.getD, List.getElem?_eq_none (show (acc ++ [ancRow acc o]).length ≤ i by simp; omega)]
        rw [e] at hk; simp at hk

theorem ancs_ok (ops : Array Oper) : AncOk ops (ancsGo ops.toList []) := ancsGo_ok _ [] (by simp) (fun i k hk => by simp [anc] at hk)

/-! ### the standing order, looked at -/

def chkPair (ops : Array Oper) (A : List Nat) (x y : Nat × Option (List Nat)) (ox oy : Oper) : Bool :=
  anc A y.1 x.1 || (x.2.isNone && apartE ops ox oy && dstNot (readsE ops ox) ox.dst && (match y.2 with | some fr => fr.contains x.1 | none => true))
def chk2 (ops : Array Oper) (A : List Nat) (x : Nat × Option (List Nat)) : Ord → Bool
  | [] => true
  | y :: l => (match ops[x.1]?, ops[y.1]? with
    | some ox, some oy => chkPair ops A x y ox oy && ((dstNot (readsE ops ox) oy.dst && dstNe oy.dst ox.dst) || l.all fun z => z.2.isNone || anc A z.1 x.1 || anc A z.1 y.1)
    | _, _ => false) && chk2 ops A x l
def chk (ops : Array Oper) (A : List Nat) : Ord → Bool
  | [] => true
  | x :: l => chk2 ops A x l && chk ops A l

def topoB (m : Region.Mode) (ops : Array Oper) : List Nat → List Nat → Bool
  | _, [] => true
  | seen, i :: l => (match ops[i]? with
    | some o => o.after.toList.all fun e => !Region.binds m e || seen.contains e.on
    | none => false) && topoB m ops (i :: seen) l

def ordB (m : Region.Mode) (ops : Array Oper) (L : List Nat) : Bool := topoB m ops [] L && (List.range ops.size).all fun i => L.contains i

def drawB (ops : Array Oper) (C : Ord) (Ct Cg : List Nat) : Bool :=
  chk ops (ancsGo ops.toList []) C && ordB .any ops (C.map (·.1)) && decide ((C.map (·.1)).Nodup) && (C.all fun q => decide (q.1 < ops.size)) && (!Region.departs ops || (ordB .text ops Ct && ordB .gc ops Cg))

theorem chk2_filter {ops : Array Oper} {A : List Nat} {x : Nat × Option (List Nat)} {f : Nat × Option (List Nat) → Bool} : ∀ {l : Ord}, chk2 ops A x l = true → chk2 ops A x (l.filter f) = true
  | [], _ => rfl
  | y :: l, h => by
    simp only [chk2, Bool.and_eq_true] at h
    rw [List.filter_cons]
    split
    · simp only [chk2, Bool.and_eq_true]
      refine ⟨?_, chk2_filter h.2⟩
      have h1 := h.1
      split at h1
      · simp only [Bool.and_eq_true, Bool.or_eq_true] at h1 ⊢
        refine ⟨h1.1, h1.2.imp id fun q => ?_⟩
        rw [List.all_eq_true] at q ⊢
        exact fun z hz => q z (List.mem_filter.1 hz).1
      · cases h1
    · exact chk2_filter h.2
theorem chk_filter {ops : Array Oper} {A : List Nat} {f : Nat × Option (List Nat) → Bool} : ∀ {l : Ord}, chk ops A l = true → chk ops A (l.filter f) = true
  | [], _ => rfl
  | y :: l, h => by
    simp only [chk, Bool.and_eq_true] at h
    rw [List.filter_cons]
    split
    · simp only [chk, Bool.and_eq_true]
      exact ⟨chk2_filter h.1, chk_filter h.2⟩
    · exact chk_filter h.2

theorem chk2_pair {ops : Array Oper} {A : List Nat} {x y : Nat × Option (List Nat)} {l2 : Ord} : ∀ {l1 : Ord}, chk2 ops A x (l1 ++ y :: l2) = true →
    ∃ ox oy, ops[x.1]? = some ox ∧ ops[y.1]? = some oy ∧ chkPair ops A x y ox oy = true ∧ (((dstNot (readsE ops ox) oy.dst && dstNe oy.dst ox.dst) || l2.all fun z => z.2.isNone || anc A z.1 x.1 || anc A z.1 y.1) = true)
  | [], h => by
    simp only [List.nil_append, chk2, Bool.and_eq_true] at h
    have h1 := h.1
    split at h1
    · rename_i ox oy e1 e2
      simp only [Bool.and_eq_true] at h1
      exact ⟨ox, oy, e1, e2, h1.1, h1.2⟩
    · cases h1
  | z :: l1, h => by
    simp only [List.cons_append, chk2, Bool.and_eq_true] at h
    exact chk2_pair h.2

theorem chk_pair {ops : Array Oper} {A : List Nat} {x : Nat × Option (List Nat)} {L : Ord} : ∀ {l0 : Ord}, chk ops A (l0 ++ x :: L) = true → chk2 ops A x L = true
  | [], h => by simp only [List.nil_append, chk, Bool.and_eq_true] at h; exact h.1
  | z :: l0, h => by simp only [List.cons_append, chk, Bool.and_eq_true] at h; exact chk_pair h.2

/-! ### orders that respect what must stand ahead -/

def TopoSeq (ops : Array Oper) : (Nat → Bool) → List Nat → Prop
  | done, [] => ∀ i, i < ops.size → done i = true
  | done, i :: l => i < ops.size ∧ done i = false ∧ Ready ops done i ∧ TopoSeq ops (fun j => j == i || done j) l

theorem topo_next {m : Region.Mode} {ops : Array Oper} {done : Nat → Bool} : ∀ {L seen : List Nat}, topoB m ops seen L = true → (∀ j ∈ seen, done j = true) → (∃ j ∈ L, done j = false) →
    ∃ i ∈ L, done i = false ∧ ∃ o, ops[i]? = some o ∧ ∀ e ∈ o.after, Region.binds m e = true → done e.on = true
  | [], seen, _, _, ⟨j, hj, _⟩ => by simp at hj
  | i :: L, seen, h, hs, hex => by
    simp only [topoB, Bool.and_eq_true] at h
    cases hd : done i with
    | true =>
      obtain ⟨j, hj, hdj⟩ := hex
      have : j ∈ L := by
        rcases List.mem_cons.1 hj with e | e
        · subst e; rw [hd] at hdj; cases hdj
        · exact e
      obtain ⟨i', q1, q2⟩ := topo_next h.2 (fun j hj => by
        rcases List.mem_cons.1 hj with e | e
        · exact e ▸ hd
        · exact hs j e) ⟨j, this, hdj⟩
      exact ⟨i', List.mem_cons_of_mem _ q1, q2⟩
    | false =>
      have h1 := h.1
      split at h1
      · rename_i o ho
        refine ⟨i, by simp, hd, o, ho, fun e he hb => ?_⟩
        have := List.all_eq_true.1 h1 e (by simpa using he)
        simp only [hb, Bool.not_true, Bool.false_or] at this
        exact hs _ (by simpa using this)
      · cases h1

theorem binds_any {m : Region.Mode} {e : Edge} (h : Region.binds .any e = true) : Region.binds m e = true := by
  unfold Region.binds at h ⊢
  split <;> simp_all

theorem go_topo {m : Region.Mode} {ops : Array Oper} {L : List Nat} (hL : ordB m ops L = true) : ∀ (fuel t : Nat) (listed : Array Bool) (acc : List Nat), listed.size = ops.size →
    ((List.range ops.size).filter fun i => !listed.getD i true).length = fuel →
    ∃ l, Region.linearise.go m ops fuel t listed acc = acc.reverse ++ l ∧ TopoSeq ops (fun j => listed.getD j false) l := by
  intro fuel
  have hL' : topoB m ops [] L = true ∧ ∀ i, i < ops.size → i ∈ L := by
    simp only [ordB, Bool.and_eq_true, List.all_eq_true] at hL
    exact ⟨hL.1, fun i hi => by simpa using hL.2 i (by simpa using hi)⟩
  have hget : ∀ (listed : Array Bool) (i : Nat), listed.size = ops.size → i < ops.size → listed.getD i true = listed.getD i false := by
    intro listed i hs hi
    simp [Array.getD_eq_getD_getElem?, Array.getElem?_eq_getElem (show i < listed.size by omega)]
  induction fuel with
  | zero =>
    intro t listed acc hsz hlen
    have hnil : ((List.range ops.size).filter fun i => !listed.getD i true) = [] := List.eq_nil_of_length_eq_zero hlen
    refine ⟨[], by simp [Region.linearise.go], fun i hi => ?_⟩
    cases hq : listed.getD i false with
    | true => exact hq
    | false =>
      exfalso
      have : i ∈ ((List.range ops.size).filter fun i => !listed.getD i true) := List.mem_filter.2 ⟨List.mem_range.2 hi, by rw [hget listed i hsz hi, hq]; rfl⟩
      rw [hnil] at this; simp at this
  | succ fuel ih =>
    intro t listed acc hsz hlen
    generalize hrs : ((List.range ops.size).filter fun i => !listed.getD i true && ((ops[i]?).map (·.after.all fun e => !Region.binds m e || listed.getD e.on false)).getD false) = rs
    have hrsne : rs ≠ [] := by
      have hne : ((List.range ops.size).filter fun i => !listed.getD i true) ≠ [] := fun e => by rw [e] at hlen; simp at hlen
      obtain ⟨j, hj⟩ := List.exists_mem_of_ne_nil _ hne
      simp only [List.mem_filter, List.mem_range, Bool.not_eq_true'] at hj
      obtain ⟨i, hiL, hdi, o, ho, he⟩ := topo_next (done := fun j => listed.getD j false) hL'.1 (by simp) ⟨j, hL'.2 j hj.1, by rw [← hget listed j hsz hj.1]; exact hj.2⟩
      have hio : i < ops.size := (Array.getElem?_eq_some_iff.1 ho).1
      have hin : i ∈ rs := by
        rw [← hrs]
        simp only [List.mem_filter, List.mem_range, Bool.and_eq_true, Bool.not_eq_true', ho, Option.map_some, Option.getD_some]
        refine ⟨hio, by rw [hget listed i hsz hio]; exact hdi, ?_⟩
        rw [Array.all_eq_true_iff_forall_mem]
        intro e hem
        cases hb : Region.binds m e with
        | false => rfl
        | true => simpa using he e hem hb
      intro e; rw [e] at hin; simp at hin
    have hlt : t % rs.length < rs.length := Nat.mod_lt _ (List.length_pos_iff.2 hrsne)
    have hg : rs[t % rs.length]? = some (rs[t % rs.length]'hlt) := List.getElem?_eq_getElem hlt
    generalize hi : rs[t % rs.length]'hlt = i at hg
    have hi_in : i ∈ rs := by rw [← hi]; exact List.getElem_mem hlt
    rw [← hrs] at hi_in
    simp only [List.mem_filter, List.mem_range, Bool.and_eq_true, Bool.not_eq_true'] at hi_in
    obtain ⟨hi1, hi2, hi3⟩ := hi_in
    have hlen' : ((List.range ops.size).filter fun j => !(listed.setIfInBounds i true).getD j true).length = fuel := by
      have e1 : ((List.range ops.size).filter fun j => !(listed.setIfInBounds i true).getD j true) = ((List.range ops.size).filter fun i => !listed.getD i true).filter (· != i) := by
        rw [List.filter_filter]
        apply List.filter_congr
        intro j hj
        simp only [Array.getD_eq_getD_getElem?, Array.getElem?_setIfInBounds]
        have hil : i < listed.size := by omega
        by_cases hji : j = i
        · subst hji; simp [hil]
        · have : ¬ i = j := fun e => hji e.symm
          simp [this, hji]
      have hmem : i ∈ ((List.range ops.size).filter fun i => !listed.getD i true) := List.mem_filter.2 ⟨List.mem_range.2 hi1, by rw [hi2]; rfl⟩
      have hnd : ((List.range ops.size).filter fun i => !listed.getD i true).Nodup := List.nodup_range.sublist List.filter_sublist
      rw [e1, ← hnd.erase_eq_filter, List.length_erase_of_mem hmem, hlen]
      rfl
    obtain ⟨l, r1, r2⟩ := ih (t / rs.length) (listed.setIfInBounds i true) (i :: acc) (by simpa using hsz) hlen'
    refine ⟨i :: l, ?_, hi1, (hget listed i hsz hi1).symm.trans hi2, fun o e ho he hb => ?_, ?_⟩
    · simp only [Region.linearise.go, hrs, hg]
      rw [r1]; simp
    · rw [ho] at hi3
      simp only [Option.map_some, Option.getD_some] at hi3
      have := (Array.all_eq_true_iff_forall_mem.1 hi3) e he
      simpa [binds_any hb] using this
    · have e2 : (fun j => (listed.setIfInBounds i true).getD j false) = (fun j => j == i || listed.getD j false) := by
        funext j
        simp only [Array.getD_eq_getD_getElem?, Array.getElem?_setIfInBounds]
        have hil : i < listed.size := by omega
        by_cases hji : i = j
        · subst hji; simp [hil]
        · have : ¬ j = i := fun e => hji e.symm
          simp [hji, this]
      rw [← e2]; exact r2

theorem schedule_topo {ops : Array Oper} {C : Ord} {Ct Cg : List Nat} (h : drawB ops C Ct Cg = true) (mixed : Bool) (t : Nat) : TopoSeq ops (fun _ => false) (Region.schedule mixed ops t) := by
  simp only [drawB, Bool.and_eq_true] at h
  have hall : ((List.range ops.size).filter fun i => !(Array.replicate ops.size false).getD i true) = List.range ops.size := by
    apply List.filter_eq_self.2
    intro i hi
    simp only [List.mem_range] at hi
    simp [Array.getD_eq_getD_getElem?, Array.getElem?_replicate, hi]
  have key : ∀ (m : Region.Mode) (L : List Nat), ordB m ops L = true → ∀ t, TopoSeq ops (fun _ => false) (Region.linearise m ops t) := by
    intro m L hL t
    obtain ⟨l, h1, h2⟩ := go_topo hL ops.size t (Array.replicate ops.size false) [] (by simp) (by rw [hall]; simp)
    unfold Region.linearise
    rw [h1]
    have e : (fun j => (Array.replicate ops.size false).getD j false) = fun _ => false := by
      funext j
      simp only [Array.getD_eq_getD_getElem?, Array.getElem?_replicate]
      split <;> rfl
    rw [e] at h2
    simpa using h2
  unfold Region.schedule
  split
  · exact key _ _ h.1.1.1.2 t
  · rename_i hm
    have hd : Region.departs ops = true := by
      cases hq : Region.departs ops with
      | true => rfl
      | false => simp [hq] at hm
    have h2 := h.2
    simp only [hd, Bool.not_true, Bool.false_or, Bool.and_eq_true] at h2
    split
    · exact key _ _ h2.1 _
    · exact key _ _ h2.2 _

/-! ### the run along any such order -/

section
variable {P : Program} {E : Ent} {st : St} {a : Act} {w : World} {ρ : Locs} {I : Imm} {tt : TypeId → Option TI} {ops : Array Oper}

theorem draw_exec {C : Ord} (hchk : chk ops (ancsGo ops.toList []) C = true) (hall : ∀ i, i < ops.size → i ∈ C.map (·.1)) (hnd : (C.map (·.1)).Nodup) (hlt : ∀ q ∈ C, q.1 < ops.size) : ∀ (l : List Nat) (done : Nat → Bool) (s s' : St), TopoSeq ops done l → Closed ops done →
    DRun P E ops (C.filter fun q => !done q.1) s s' → ∀ (Q : Exit → Act → World → Prop) (a : Act) (w : World), R E s a w → (∀ a' w', R E s' a' w' → Q .normal a' w') → wpOps P ops Q l a w := by
  intro l
  induction l with
  | nil =>
    intro done s s' ht hc hrun Q a w hR hQ
    have hnil : (C.filter fun q => !done q.1) = [] := by
      apply List.filter_eq_nil_iff.2
      intro q hq
      simp [ht q.1 (hlt q hq)]
    rw [hnil] at hrun
    cases hrun
    exact hQ a w hR
  | cons i l ih =>
    intro done s s' ht hc hrun Q a w hR hQ
    obtain ⟨hi, hdi, hready, ht'⟩ := ht
    obtain ⟨q, hqC, hqi⟩ := List.mem_map.1 (hall i hi)
    have hqin : q ∈ C.filter fun q => !done q.1 := List.mem_filter.2 ⟨hqC, by rw [hqi, hdi]; rfl⟩
    obtain ⟨pre, post, hsplit⟩ := List.append_of_mem hqin
    have hchk' : chk ops (ancsGo ops.toList []) (pre ++ q :: post) = true := by rw [← hsplit]; exact chk_filter hchk
    have hnotdone : ∀ x ∈ pre ++ q :: post, done x.1 = false := fun x hx => by
      rw [← hsplit] at hx
      simpa using (List.mem_filter.1 hx).2
    have hnoanc : ∀ x ∈ pre, anc (ancsGo ops.toList []) q.1 x.1 = false := by
      intro x hx
      cases ha : anc (ancsGo ops.toList []) q.1 x.1 with
      | false => rfl
      | true =>
        have := ancs_ok ops _ _ ha done hc (by rw [hqi]; exact hready)
        rw [hnotdone x (by simp [hx])] at this; cases this
    have hpre : ∀ x ∈ pre, x.2 = none ∧ ∀ ox oq, ops[x.1]? = some ox → ops[q.1]? = some oq → apartE ops ox oq = true ∧ dstNot (readsE ops ox) ox.dst = true ∧ ∀ fr, q.2 = some fr → x.1 ∈ fr := by
      intro x hx
      obtain ⟨l1, l2, hs⟩ := List.append_of_mem hx
      rw [hs] at hchk'
      simp only [List.append_assoc, List.cons_append] at hchk'
      obtain ⟨ox, oy, e1, e2, e3, _⟩ := chk2_pair (chk_pair hchk')
      unfold chkPair at e3
      rw [hnoanc x hx] at e3
      simp only [Bool.false_or, Bool.and_eq_true, Option.isNone_iff_eq_none] at e3
      refine ⟨e3.1.1.1, fun ox' oq' g1 g2 => ?_⟩
      rw [e1] at g1; rw [e2] at g2
      cases g1; cases g2
      refine ⟨e3.1.1.2, e3.1.2, fun fr hfr => ?_⟩
      have := e3.2
      rw [hfr] at this
      simpa using this
    have hpm : pre = (pre.map (·.1)).map (·, none) := by
      rw [List.map_map]
      conv => lhs; rw [← List.map_id pre]
      apply List.map_congr_left
      intro x hx
      have := (hpre x hx).1
      cases x; simp at this; simp [this]
    have hCl' : Closed ops (fun j => j == i || done j) := by
      intro j o e hj ho he hb
      simp only [Bool.or_eq_true, beq_iff_eq] at hj ⊢
      rcases hj with rfl | hj
      · exact .inr (hready o e ho he hb)
      · exact .inr (hc j o e hj ho he hb)
    have hfil : (C.filter fun q => !((fun j => j == i || done j) q.1)) = pre ++ post := by
      have e1 : (C.filter fun q => !((fun j => j == i || done j) q.1)) = (C.filter fun q => !done q.1).filter (fun q => q.1 != i) := by
        rw [List.filter_filter]
        apply List.filter_congr
        intro x _
        simp only [Bool.not_or, bne]
      have hndf : ((C.filter fun q => !done q.1).map (·.1)).Nodup := hnd.sublist (List.Sublist.map _ List.filter_sublist)
      rw [hsplit] at hndf
      rw [e1, hsplit, List.filter_append, List.filter_cons]
      have hne : (q.1 != i) = false := by simp [hqi]
      rw [hne]
      simp only [Bool.false_eq_true, if_false]
      rw [List.map_append, List.map_cons, List.nodup_append] at hndf
      have hA : pre.filter (fun q => q.1 != i) = pre := List.filter_eq_self.2 fun x hx => by
        have := hndf.2.2 x.1 (List.mem_map.2 ⟨x, hx, rfl⟩) q.1 (by simp)
        simp only [bne_iff_ne, ne_eq]
        rw [← hqi]; exact this
      have hB : post.filter (fun q => q.1 != i) = post := List.filter_eq_self.2 fun x hx => by
        have := (List.nodup_cons.1 hndf.2.1).1
        simp only [bne_iff_ne, ne_eq]
        rw [← hqi]
        intro e
        exact this (List.mem_map.2 ⟨x, hx, e⟩)
      rw [hA, hB]
    rw [hsplit, hpm] at hrun
    obtain ⟨s1, hl, hrun1⟩ := drun_split hrun
    have hmemP : ∀ k ∈ pre.map (·.1), ∃ x ∈ pre, x.1 = k := fun k hk => List.mem_map.1 hk
    obtain ⟨qi, q2⟩ := q
    simp only at hqi
    subst hqi
    cases q2 with
    | none =>
      cases hrun1 with
      | look _ _ o _ d _ ho u hs =>
        obtain ⟨u0, hl0⟩ := lrun_front hl u (fun k hk x hx => by
          obtain ⟨y, hy, rfl⟩ := hmemP k hk
          exact ((hpre y hy).2 x o hx ho).1)
        have hd2 := lrun_drun hl0 hs
        rw [← hpm, ← hfil] at hd2
        refine u0 s Agree.rfl' l Q a w hR fun a' w' hR' => ?_
        exact ih _ _ s' ht' hCl' hd2 Q a' w' hR' hQ
    | some fr =>
      cases hrun1 with
      | eff _ _ _ o _ K h d _ ho u hst hs =>
        obtain ⟨u0, hl0⟩ := eff_front hl u (fun k hk => by
          obtain ⟨y, hy, rfl⟩ := hmemP k hk
          obtain ⟨l1, l2, hs2⟩ := List.append_of_mem hy
          have hch := hchk'
          rw [hs2] at hch
          simp only [List.append_assoc, List.cons_append] at hch
          obtain ⟨ox, oy, e1, e2, _⟩ := chk2_pair (chk_pair hch)
          exact hst y.1 (((hpre y hy).2 ox o e1 ho).2.2 fr rfl)) (fun k hk x hx => by
          obtain ⟨y, hy, rfl⟩ := hmemP k hk
          have := (hpre y hy).2 x o hx ho
          exact ⟨this.1, this.2.1⟩) (by
          rw [List.pairwise_map, List.pairwise_iff_getElem]
          intro m n hm hn hmn x y hx hy
          -- y1 stands ahead of y2 in pre
          have hsp : ∃ l0 l1 l2, pre = l0 ++ pre[m] :: (l1 ++ pre[n] :: l2) := by
            refine ⟨pre.take m, (pre.drop (m + 1)).take (n - (m + 1)), pre.drop (n + 1), ?_⟩
            have e1 : pre = pre.take m ++ pre.drop m := (List.take_append_drop m pre).symm
            have e2 : pre.drop m = pre[m] :: pre.drop (m + 1) := List.drop_eq_getElem_cons hm
            have e3 : pre.drop (m + 1) = (pre.drop (m + 1)).take (n - (m + 1)) ++ (pre.drop (m + 1)).drop (n - (m + 1)) := (List.take_append_drop _ _).symm
            have e4 : (pre.drop (m + 1)).drop (n - (m + 1)) = pre.drop n := by rw [List.drop_drop]; congr 1; omega
            have e5 : pre.drop n = pre[n] :: pre.drop (n + 1) := List.drop_eq_getElem_cons hn
            rw [← e5, ← e4, ← e3, ← e2, ← e1]
          obtain ⟨l0, l1, l2, hs2⟩ := hsp
          have hch := hchk'
          rw [hs2] at hch
          simp only [List.append_assoc, List.cons_append] at hch
          obtain ⟨ox, oy, e1, e2, _, e4⟩ := chk2_pair (chk_pair hch)
          rw [hx] at e1; rw [hy] at e2
          cases e1; cases e2
          simp only [Bool.or_eq_true, Bool.and_eq_true] at e4
          rcases e4 with e4 | e4
          · exact e4
          · exfalso
            have := List.all_eq_true.1 e4 (qi, some fr) (by simp)
            simp only [Option.isNone_some, Bool.false_or, Bool.or_eq_true] at this
            rcases this with q | q
            · rw [hnoanc _ (List.getElem_mem hm)] at q; cases q
            · rw [hnoanc _ (List.getElem_mem hn)] at q; cases q)
        have hd2 := lrun_drun hl0 hs
        rw [← hpm, ← hfil] at hd2
        refine u0 s Agree.rfl' l Q a w hR fun a' w' hR' => ?_
        exact ih _ _ s' ht' hCl' hd2 Q a' w' hR' hQ

/-! ### the goal of a walk -/

def slotIs (st : St) (dst : Option Tmp) (d : D) : Prop := match dst with
  | some t => st.slots t = some d
  | none => True

/-- What is looked at again behind an effect. -/
def stabA (tt : TypeId → Option TI) (ops : Array Oper) (st : St) : List Nat → Prop
  | [] => True
  | x :: l => (match ops[x]? with
    | some o => (match st.want ops o with
      | some false => st.fits o.dst = true ∧ slotIs st o.dst (.v (.tuple #[]))
      | some true => (match val tt st o.op with
        | some (p, d) => p ∧ st.fits o.dst = true ∧ slotIs st o.dst d
        | none => False)
      | none => False)
    | none => False) ∧ stabA tt ops st l

def callKD (tt : TypeId → Option TI) (ops : Array Oper) (dst : Option Tmp) (fr : List Nat) (F : St → Prop) (st1 : St) (d : D) : Prop := st1.fits dst = true ∧ stabA tt ops (st1.put dst d) fr ∧ F (st1.put dst d)

def aopsD (P : Program) (tt : TypeId → Option TI) (ops : Array Oper) (K : St → Prop) (id : Nat) : Ord → St → Prop
  | [], st => K st
  | (i, none) :: rest, st => match ops[i]? with
    | some o => (match st.want ops o with
      | some false => st.fits o.dst = true ∧ aopsD P tt ops K id rest (st.put o.dst (.v (.tuple #[])))
      | some true => (match val tt st o.op with
        | some (p, d) => p ∧ st.fits o.dst = true ∧ aopsD P tt ops K id rest (st.put o.dst d)
        | none => False)
      | none => False)
    | none => False
  | (i, some fr) :: rest, st => match ops[i]? with
    | some o => (match st.want ops o with
      | some false => st.fits o.dst = true ∧ stabA tt ops (st.put o.dst (.v (.tuple #[]))) fr ∧ aopsD P tt ops K id rest (st.put o.dst (.v (.tuple #[])))
      | some true => (match exec1 tt (id + i) st o.op with
        | some (p, st1, d) => p ∧ st1.fits o.dst = true ∧ stabA tt ops (st1.put o.dst d) fr ∧ aopsD P tt ops K id rest (st1.put o.dst d)
        | none => match st.callOf o.op with
          | some (f, args) => CallVC P f args (purL (pur st.heap 4) args) st (id + i + 100000) (callKD tt ops o.dst fr (aopsD P tt ops K id rest))
          | none => False)
      | none => False)
    | none => False

theorem aopsD_nil (P : Program) (tt : TypeId → Option TI) (ops : Array Oper) (K : St → Prop) (id : Nat) (st : St) : aopsD P tt ops K id [] st = K st := rfl

def dLook (tt : TypeId → Option TI) (ops : Array Oper) (F : St → Prop) (st : St) : Option Oper → Prop
  | some o => runL F (stepL tt ops st o)
  | none => False
theorem dLook_some (tt : TypeId → Option TI) (ops : Array Oper) (F : St → Prop) (st : St) (o : Oper) : dLook tt ops F st (some o) = runL F (stepL tt ops st o) := rfl

theorem aopsD_look (P : Program) (tt : TypeId → Option TI) (ops : Array Oper) (K : St → Prop) (id : Nat) (i : Nat) (rest : Ord) (st : St) : aopsD P tt ops K id ((i, none) :: rest) st = dLook tt ops (aopsD P tt ops K id rest) st ops[i]? := by
  simp only [aopsD]
  cases ops[i]? with
  | none => rfl
  | some o =>
    simp only [dLook, stepL]
    cases st.want ops o with
    | none => rfl
    | some b => cases b with
      | false => rfl
      | true => cases val tt st o.op with
        | none => rfl
        | some q =>
          obtain ⟨p, d⟩ := q
          simp only [runL, and_assoc]

def stepE (tt : TypeId → Option TI) (ops : Array Oper) (id : Nat) (st : St) (o : Oper) : Option SRes := match st.want ops o with
  | some false => some (.go (st.fits o.dst = true) (st.put o.dst (.v (.tuple #[]))))
  | some true => match exec1 tt id st o.op with
    | some (p, st1, d) => some (.go (p ∧ st1.fits o.dst = true) (st1.put o.dst d))
    | none => match st.callOf o.op with
      | some (f, args) => some (.call f args)
      | none => none
  | none => none

def runE (P : Program) (tt : TypeId → Option TI) (ops : Array Oper) (st : St) (dst : Option Tmp) (nid : Nat) (fr : List Nat) (F : St → Prop) : Option SRes → Prop
  | some (.go p s) => p ∧ stabA tt ops s fr ∧ F s
  | some (.call f args) => CallVC P f args (purL (pur st.heap 4) args) st nid (callKD tt ops dst fr F)
  | _ => False
theorem runE_go (P : Program) (tt : TypeId → Option TI) (ops : Array Oper) (st : St) (dst : Option Tmp) (nid : Nat) (fr : List Nat) (F : St → Prop) (p : Prop) (s : St) : runE P tt ops st dst nid fr F (some (.go p s)) = (p ∧ stabA tt ops s fr ∧ F s) := rfl
theorem runE_call (P : Program) (tt : TypeId → Option TI) (ops : Array Oper) (st : St) (dst : Option Tmp) (nid : Nat) (fr : List Nat) (F : St → Prop) (f : FuncId) (args : List D) : runE P tt ops st dst nid fr F (some (.call f args)) = CallVC P f args (purL (pur st.heap 4) args) st nid (callKD tt ops dst fr F) := rfl

def dEff (P : Program) (tt : TypeId → Option TI) (ops : Array Oper) (id : Nat) (fr : List Nat) (F : St → Prop) (st : St) : Option Oper → Prop
  | some o => runE P tt ops st o.dst (id + 100000) fr F (stepE tt ops id st o)
  | none => False
theorem dEff_some (P : Program) (tt : TypeId → Option TI) (ops : Array Oper) (id : Nat) (fr : List Nat) (F : St → Prop) (st : St) (o : Oper) : dEff P tt ops id fr F st (some o) = runE P tt ops st o.dst (id + 100000) fr F (stepE tt ops id st o) := rfl

theorem aopsD_eff (P : Program) (tt : TypeId → Option TI) (ops : Array Oper) (K : St → Prop) (id : Nat) (i : Nat) (fr : List Nat) (rest : Ord) (st : St) : aopsD P tt ops K id ((i, some fr) :: rest) st = dEff P tt ops (id + i) fr (aopsD P tt ops K id rest) st ops[i]? := by
  simp only [aopsD]
  cases ops[i]? with
  | none => rfl
  | some o =>
    simp only [dEff, stepE]
    cases st.want ops o with
    | none => rfl
    | some b => cases b with
      | false => rfl
      | true => cases exec1 tt (id + i) st o.op with
        | some q =>
          obtain ⟨p, s1, d⟩ := q
          simp only [runE, and_assoc]
        | none => cases st.callOf o.op with
          | none => rfl
          | some q => rfl

def stab1 (tt : TypeId → Option TI) (ops : Array Oper) (st : St) : Option Oper → Prop
  | some o => (match st.want ops o with
      | some false => st.fits o.dst = true ∧ slotIs st o.dst (.v (.tuple #[]))
      | some true => (match val tt st o.op with
        | some (p, d) => p ∧ st.fits o.dst = true ∧ slotIs st o.dst d
        | none => False)
      | none => False)
  | none => False
theorem stab1_some (tt : TypeId → Option TI) (ops : Array Oper) (st : St) (o : Oper) : stab1 tt ops st (some o) = (match st.want ops o with
      | some false => st.fits o.dst = true ∧ slotIs st o.dst (.v (.tuple #[]))
      | some true => (match val tt st o.op with
        | some (p, d) => p ∧ st.fits o.dst = true ∧ slotIs st o.dst d
        | none => False)
      | none => False) := rfl
theorem stabA_nil (tt : TypeId → Option TI) (ops : Array Oper) (st : St) : stabA tt ops st [] = True := rfl
theorem stabA_cons (tt : TypeId → Option TI) (ops : Array Oper) (st : St) (x : Nat) (l : List Nat) : stabA tt ops st (x :: l) = (stab1 tt ops st ops[x]? ∧ stabA tt ops st l) := by
  simp only [stabA]
  cases ops[x]? <;> rfl

theorem stabA_stab (ht : TTok P tt) {s : St} : ∀ {l : List Nat}, stabA tt ops s l → ∀ x ∈ l, StabU P E ops x s
  | [], _, x, hx => by simp at hx
  | y :: l, h, x, hx => by
    simp only [stabA] at h
    rcases List.mem_cons.1 hx with e | e
    · subst e
      intro ox hox
      have h1 := h.1
      rw [hox] at h1
      simp only at h1
      split at h1
      · rename_i hw
        refine ⟨_, fun t ht' => ?_, skip_uni hox hw h1.1⟩
        have := h1.2
        rw [ht'] at this; exact this
      · rename_i hw
        split at h1
        · rename_i p d hv
          refine ⟨d, fun t ht' => ?_, look_uni ht hox hw hv h1.1 h1.2.1⟩
          have := h1.2.2
          rw [ht'] at this; exact this
        · exact h1.elim
      · exact h1.elim
    · exact stabA_stab ht h.2 x e

theorem aopsD_run (ht : TTok P tt) {K : St → Prop} {id : Nat} : ∀ {C : Ord} {s : St}, aopsD P tt ops K id C s → ∃ s', DRun P E ops C s s' ∧ K s'
  | [], s, h => ⟨s, .nil s, h⟩
  | (i, none) :: rest, s, h => by
    simp only [aopsD] at h
    split at h
    · rename_i o ho
      split at h
      · rename_i hw
        obtain ⟨s', r1, r2⟩ := aopsD_run ht h.2
        exact ⟨s', .look i rest o s _ s' ho (skip_uni ho hw h.1) r1, r2⟩
      · rename_i hw
        split at h
        · rename_i p d hv
          obtain ⟨s', r1, r2⟩ := aopsD_run ht h.2.2
          exact ⟨s', .look i rest o s _ s' ho (look_uni ht ho hw hv h.1 h.2.1) r1, r2⟩
        · exact h.elim
      · exact h.elim
    · exact h.elim
  | (i, some fr) :: rest, s, h => by
    simp only [aopsD] at h
    split at h
    · rename_i o ho
      split at h
      · rename_i hw
        obtain ⟨s', r1, r2⟩ := aopsD_run ht h.2.2
        have e := app_look s o.dst (.v (.tuple #[]))
        refine ⟨s', .eff i fr rest o s [] s.heap _ s' ho (skip_uni ho hw h.1) ?_ ?_, r2⟩
        · rw [e]; exact stabA_stab ht h.2.1
        · rw [e]; exact r1
      · rename_i hw
        split at h
        · rename_i p st1 d hv
          obtain ⟨K', h', e, u⟩ := exec_uni (E := E) ht ho hw hv h.1 h.2.1
          rw [e] at h
          obtain ⟨s', r1, r2⟩ := aopsD_run ht h.2.2.2
          exact ⟨s', .eff i fr rest o s K' h' d s' ho u (stabA_stab ht h.2.2.1) r1, r2⟩
        · split at h
          · rename_i f args hc
            obtain ⟨K', h', d, hk, u⟩ := call_uni (E := E) ho hw hc h (fun st1 d q => q.1)
            obtain ⟨s', r1, r2⟩ := aopsD_run ht hk.2.2
            exact ⟨s', .eff i fr rest o s K' h' d s' ho u (stabA_stab ht hk.2.1) r1, r2⟩
          · exact h.elim
      · exact h.elim
    · exact h.elim

/-- A region that draws its order and writes: C is an order that fits; behind each effect what may stand on either side is looked at again. -/
theorem awp_drawE {Q : Exit → St → Prop} (ht : TTok P tt) {rid : Nat} (C : Ord) (Ct Cg : List Nat) (hC : drawB ops C Ct Cg = true) (h : aopsD P tt ops (fun st' => Q .normal st') (rid * 1000 + 1000) C st) : AWP P E (.region rid ops true) Q st := by
  intro a w hR
  refine wp_region_draw fun t => ?_
  obtain ⟨s', h1, h2⟩ := aopsD_run (E := E) ht h
  have hs := schedule_topo hC (P.follows .mixedOrders) t
  have hC' := hC
  simp only [drawB, ordB, Bool.and_eq_true, decide_eq_true_eq, List.all_eq_true] at hC'
  have e : (C.filter fun q => !((fun _ => false) q.1)) = C := List.filter_eq_self.2 (fun _ _ => rfl)
  refine draw_exec hC'.1.1.1.1 (fun i hi => by simpa using hC'.1.1.1.2.2 i (by simpa using hi)) hC'.1.1.2 hC'.1.2 _ (fun _ => false) st s' hs (fun j o e hj => by cases hj) (by rw [e]; exact h1) _ a _ ?_ (fun a' w' hR' => ⟨s', h2, hR'⟩)
  obtain ⟨ρ, I, hrb⟩ := hR
  exact ⟨ρ, I, hrb.drew⟩

/-- The operations by their numbers. -/
def OpsAre (O : Array Oper) : List Oper → Nat → Prop
  | [], _ => True
  | o :: l, i => O[i]? = some o ∧ OpsAre O l (i + 1)

theorem opsAre_self (O : Array Oper) : ∀ (l : List Oper) (i : Nat), O.toList.drop i = l → OpsAre O l i
  | [], _, _ => trivial
  | o :: l, i, h => ⟨by
      have := congrArg (·[0]?) h
      simpa using this, opsAre_self O l (i + 1) (by rw [← List.drop_drop, h]; rfl)⟩

/-- .. the operations' table behind a name. -/
theorem awp_drawG {Q : Exit → St → Prop} (ht : TTok P tt) {rid : Nat} (C : Ord) (Ct Cg : List Nat) (hC : drawB ops C Ct Cg = true) (h : ∀ O : Array Oper, OpsAre O ops.toList 0 → aopsD P tt O (fun st' => Q .normal st') (rid * 1000 + 1000) C st) : AWP P E (.region rid ops true) Q st :=
  awp_drawE ht C Ct Cg hC (h ops (opsAre_self ops _ 0 (by simp)))

end
end Go.Ab
