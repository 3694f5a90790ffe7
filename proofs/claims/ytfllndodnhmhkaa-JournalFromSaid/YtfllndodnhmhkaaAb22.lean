/-
  ABSTRACT DATA FOR WALKS, 22: regions that draw the order of effects too; branches that meet again.
-/
import Derived.Test.YtfllndodnhmhkaaAb21
namespace Go.Ab
set_option linter.unusedSimpArgs false
set_option linter.unusedVariables false

def schedB (ops : Array Oper) (L Ct Cg : List Nat) : Bool := ordB .any ops L && (!Region.departs ops || (ordB .text ops Ct && ordB .gc ops Cg))

theorem schedule_topo2 {ops : Array Oper} {L Ct Cg : List Nat} (h : schedB ops L Ct Cg = true) (mixed : Bool) (t : Nat) : TopoSeq ops (fun _ => false) (Region.schedule mixed ops t) := by
  simp only [schedB, Bool.and_eq_true] at h
  have hall : ((List.range ops.size).filter fun i => !(Array.replicate ops.size false).getD i true) = List.range ops.size := by
    apply List.filter_eq_self.2
    intro i hi
    simp only [List.mem_range] at hi
    simp [Array.getD_eq_getD_getElem?, Array.getElem?_replicate, hi]
  have key : ∀ (m : Region.Mode) (L : List Nat), ordB m ops L = true → ∀ t, TopoSeq ops (fun _ => false) (Region.linearise m ops t) := by
    intro m L hL t
    obtain ⟨l, h1, h2⟩ := go_topo hL ops.size t (Array.replicate ops.size false) [] (by simp) (by rw [hall]; simp)
    unfold Region.linearise
    rw [h1]
    have e : (fun j => (Array.replicate ops.size false).getD j false) = fun _ => false := by
      funext j
      simp only [Array.getD_eq_getD_getElem?, Array.getElem?_replicate]
      split <;> rfl
    rw [e] at h2
    simpa using h2
  unfold Region.schedule
  split
  · exact key _ _ h.1 t
  · rename_i hm
    have hd : Region.departs ops = true := by
      cases hq : Region.departs ops with
      | true => rfl
      | false => simp [hq] at hm
    have h2 := h.2
    simp only [hd, Bool.not_true, Bool.false_or, Bool.and_eq_true] at h2
    split
    · exact key _ _ h2.1 _
    · exact key _ _ h2.2 _


section
variable {P : Program} {E : Ent} {st : St} {a : Act} {w : World} {ρ : Locs} {I : Imm} {tt : TypeId → Option TI} {ops : Array Oper}

theorem draw_exec2 {edg : Array Oper} (hsz : edg.size = ops.size) {A : List Nat} (hA : AncOk edg A) {C : Ord} (hchk : chk ops A C = true) (hall : ∀ i, i < ops.size → i ∈ C.map (·.1)) (hnd : (C.map (·.1)).Nodup) (hlt : ∀ q ∈ C, q.1 < ops.size) : ∀ (l : List Nat) (done : Nat → Bool) (s s' : St), TopoSeq edg done l → Closed edg done →
    DRun P E ops (C.filter fun q => !done q.1) s s' → ∀ (Q : Exit → Act → World → Prop) (a : Act) (w : World), R E s a w → (∀ a' w', R E s' a' w' → Q .normal a' w') → wpOps P ops Q l a w := by
  intro l
  induction l with
  | nil =>
    intro done s s' ht hc hrun Q a w hR hQ
    have hnil : (C.filter fun q => !done q.1) = [] := by
      apply List.filter_eq_nil_iff.2
      intro q hq
      simp [ht q.1 (by rw [hsz]; exact hlt q hq)]
    rw [hnil] at hrun
    cases hrun
    exact hQ a w hR
  | cons i l ih =>
    intro done s s' ht hc hrun Q a w hR hQ
    obtain ⟨hi, hdi, hready, ht'⟩ := ht
    obtain ⟨q, hqC, hqi⟩ := List.mem_map.1 (hall i (hsz ▸ hi))
    have hqin : q ∈ C.filter fun q => !done q.1 := List.mem_filter.2 ⟨hqC, by rw [hqi, hdi]; rfl⟩
    obtain ⟨pre, post, hsplit⟩ := List.append_of_mem hqin
    have hchk' : chk ops A (pre ++ q :: post) = true := by rw [← hsplit]; exact chk_filter hchk
    have hnotdone : ∀ x ∈ pre ++ q :: post, done x.1 = false := fun x hx => by
      rw [← hsplit] at hx
      simpa using (List.mem_filter.1 hx).2
    have hnoanc : ∀ x ∈ pre, anc A q.1 x.1 = false := by
      intro x hx
      cases ha : anc A q.1 x.1 with
      | false => rfl
      | true =>
        have := hA _ _ ha done hc (by rw [hqi]; exact hready)
        rw [hnotdone x (by simp [hx])] at this; cases this
    have hpre : ∀ x ∈ pre, x.2 = none ∧ ∀ ox oq, ops[x.1]? = some ox → ops[q.1]? = some oq → apartE ops ox oq = true ∧ dstNot (readsE ops ox) ox.dst = true ∧ ∀ fr, q.2 = some fr → x.1 ∈ fr := by
      intro x hx
      obtain ⟨l1, l2, hs⟩ := List.append_of_mem hx
      rw [hs] at hchk'
      simp only [List.append_assoc, List.cons_append] at hchk'
      obtain ⟨ox, oy, e1, e2, e3, _⟩ := chk2_pair (chk_pair hchk')
      unfold chkPair at e3
      rw [hnoanc x hx] at e3
      simp only [Bool.false_or, Bool.and_eq_true, Option.isNone_iff_eq_none] at e3
      refine ⟨e3.1.1.1, fun ox' oq' g1 g2 => ?_⟩
      rw [e1] at g1; rw [e2] at g2
      cases g1; cases g2
      refine ⟨e3.1.1.2, e3.1.2, fun fr hfr => ?_⟩
      have := e3.2
      rw [hfr] at this
      simpa using this
    have hpm : pre = (pre.map (·.1)).map (·, none) := by
      rw [List.map_map]
      conv => lhs; rw [← List.map_id pre]
      apply List.map_congr_left
      intro x hx
      have := (hpre x hx).1
      cases x; simp at this; simp [this]
    have hCl' : Closed edg (fun j => j == i || done j) := by
      intro j o e hj ho he hb
      simp only [Bool.or_eq_true, beq_iff_eq] at hj ⊢
      rcases hj with rfl | hj
      · exact .inr (hready o e ho he hb)
      · exact .inr (hc j o e hj ho he hb)
    have hfil : (C.filter fun q => !((fun j => j == i || done j) q.1)) = pre ++ post := by
      have e1 : (C.filter fun q => !((fun j => j == i || done j) q.1)) = (C.filter fun q => !done q.1).filter (fun q => q.1 != i) := by
        rw [List.filter_filter]
        apply List.filter_congr
        intro x _
        simp only [Bool.not_or, bne]
      have hndf : ((C.filter fun q => !done q.1).map (·.1)).Nodup := hnd.sublist (List.Sublist.map _ List.filter_sublist)
      rw [hsplit] at hndf
      rw [e1, hsplit, List.filter_append, List.filter_cons]
      have hne : (q.1 != i) = false := by simp [hqi]
      rw [hne]
      simp only [Bool.false_eq_true, if_false]
      rw [List.map_append, List.map_cons, List.nodup_append] at hndf
      have hA : pre.filter (fun q => q.1 != i) = pre := List.filter_eq_self.2 fun x hx => by
        have := hndf.2.2 x.1 (List.mem_map.2 ⟨x, hx, rfl⟩) q.1 (by simp)
        simp only [bne_iff_ne, ne_eq]
        rw [← hqi]; exact this
      have hB : post.filter (fun q => q.1 != i) = post := List.filter_eq_self.2 fun x hx => by
        have := (List.nodup_cons.1 hndf.2.1).1
        simp only [bne_iff_ne, ne_eq]
        rw [← hqi]
        intro e
        exact this (List.mem_map.2 ⟨x, hx, e⟩)
      rw [hA, hB]
    rw [hsplit, hpm] at hrun
    obtain ⟨s1, hl, hrun1⟩ := drun_split hrun
    have hmemP : ∀ k ∈ pre.map (·.1), ∃ x ∈ pre, x.1 = k := fun k hk => List.mem_map.1 hk
    obtain ⟨qi, q2⟩ := q
    simp only at hqi
    subst hqi
    cases q2 with
    | none =>
      cases hrun1 with
      | look _ _ o _ d _ ho u hs =>
        obtain ⟨u0, hl0⟩ := lrun_front hl u (fun k hk x hx => by
          obtain ⟨y, hy, rfl⟩ := hmemP k hk
          exact ((hpre y hy).2 x o hx ho).1)
        have hd2 := lrun_drun hl0 hs
        rw [← hpm, ← hfil] at hd2
        refine u0 s Agree.rfl' l Q a w hR fun a' w' hR' => ?_
        exact ih _ _ s' ht' hCl' hd2 Q a' w' hR' hQ
    | some fr =>
      cases hrun1 with
      | eff _ _ _ o _ K h d _ ho u hst hs =>
        obtain ⟨u0, hl0⟩ := eff_front hl u (fun k hk => by
          obtain ⟨y, hy, rfl⟩ := hmemP k hk
          obtain ⟨l1, l2, hs2⟩ := List.append_of_mem hy
          have hch := hchk'
          rw [hs2] at hch
          simp only [List.append_assoc, List.cons_append] at hch
          obtain ⟨ox, oy, e1, e2, _⟩ := chk2_pair (chk_pair hch)
          exact hst y.1 (((hpre y hy).2 ox o e1 ho).2.2 fr rfl)) (fun k hk x hx => by
          obtain ⟨y, hy, rfl⟩ := hmemP k hk
          have := (hpre y hy).2 x o hx ho
          exact ⟨this.1, this.2.1⟩) (by
          rw [List.pairwise_map, List.pairwise_iff_getElem]
          intro m n hm hn hmn x y hx hy
          -- y1 stands ahead of y2 in pre
          have hsp : ∃ l0 l1 l2, pre = l0 ++ pre[m] :: (l1 ++ pre[n] :: l2) := by
            refine ⟨pre.take m, (pre.drop (m + 1)).take (n - (m + 1)), pre.drop (n + 1), ?_⟩
            have e1 : pre = pre.take m ++ pre.drop m := (List.take_append_drop m pre).symm
            have e2 : pre.drop m = pre[m] :: pre.drop (m + 1) := List.drop_eq_getElem_cons hm
            have e3 : pre.drop (m + 1) = (pre.drop (m + 1)).take (n - (m + 1)) ++ (pre.drop (m + 1)).drop (n - (m + 1)) := (List.take_append_drop _ _).symm
            have e4 : (pre.drop (m + 1)).drop (n - (m + 1)) = pre.drop n := by rw [List.drop_drop]; congr 1; omega
            have e5 : pre.drop n = pre[n] :: pre.drop (n + 1) := List.drop_eq_getElem_cons hn
            rw [← e5, ← e4, ← e3, ← e2, ← e1]
          obtain ⟨l0, l1, l2, hs2⟩ := hsp
          have hch := hchk'
          rw [hs2] at hch
          simp only [List.append_assoc, List.cons_append] at hch
          obtain ⟨ox, oy, e1, e2, _, e4⟩ := chk2_pair (chk_pair hch)
          rw [hx] at e1; rw [hy] at e2
          cases e1; cases e2
          simp only [Bool.or_eq_true, Bool.and_eq_true] at e4
          rcases e4 with e4 | e4
          · exact e4
          · exfalso
            have := List.all_eq_true.1 e4 (qi, some fr) (by simp)
            simp only [Option.isNone_some, Bool.false_or, Bool.or_eq_true] at this
            rcases this with q | q
            · rw [hnoanc _ (List.getElem_mem hm)] at q; cases q
            · rw [hnoanc _ (List.getElem_mem hn)] at q; cases q)
        have hd2 := lrun_drun hl0 hs
        rw [← hpm, ← hfil] at hd2
        refine u0 s Agree.rfl' l Q a w hR fun a' w' hR' => ?_
        exact ih _ _ s' ht' hCl' hd2 Q a' w' hR' hQ


/-- Operation b waits for operation x. -/
def addEdge (ops : Array Oper) (b x : Nat) : Array Oper := ops.modify b fun o => { o with after := o.after.push ⟨x, .data⟩ }
theorem addEdge_size (ops : Array Oper) (b x : Nat) : (addEdge ops b x).size = ops.size := by simp [addEdge]
theorem addEdge_get {ops : Array Oper} {b x i : Nat} {o : Oper} (h : (addEdge ops b x)[i]? = some o) : ∃ o', ops[i]? = some o' ∧ ((i = b ∧ o = { o' with after := o'.after.push ⟨x, .data⟩ }) ∨ (i ≠ b ∧ o = o')) := by
  unfold addEdge at h
  rw [Array.getElem?_modify] at h
  split at h
  · rename_i e
    cases h2 : ops[i]? with
    | none => simp [h2] at h
    | some o' =>
      simp [h2] at h
      exact ⟨o', rfl, .inl ⟨e.symm, h.symm⟩⟩
  · rename_i e
    exact ⟨o, h, .inr ⟨fun q => e q.symm, rfl⟩⟩

theorem ready_add {b x i : Nat} {done : Nat → Bool} (h : Ready ops done i) (hx : i = b → done x = true) : Ready (addEdge ops b x) done i := by
  intro o e ho he hb
  obtain ⟨o', h1, ⟨h2, rfl⟩ | ⟨h2, rfl⟩⟩ := addEdge_get ho
  · simp only [Array.mem_push] at he
    rcases he with he | rfl
    · exact h o' e h1 he hb
    · exact hx h2
  · exact h o e h1 he hb

theorem topo_split {b x : Nat} (hne : b ≠ x) : ∀ (l : List Nat) (done : Nat → Bool), TopoSeq ops done l → (done x = true → TopoSeq (addEdge ops b x) done l) ∧ (done b = true → TopoSeq (addEdge ops x b) done l) ∧ (TopoSeq (addEdge ops b x) done l ∨ TopoSeq (addEdge ops x b) done l)
  | [], done, h => ⟨fun _ i hi => h i (by rwa [addEdge_size] at hi), fun _ i hi => h i (by rwa [addEdge_size] at hi), .inl fun i hi => h i (by rwa [addEdge_size] at hi)⟩
  | i :: l, done, ⟨h1, h2, h3, h4⟩ => by
    obtain ⟨r1, r2, r3⟩ := topo_split hne l _ h4
    refine ⟨fun hx => ⟨by rwa [addEdge_size], h2, ready_add h3 (fun _ => hx), r1 (by simp [hx])⟩, fun hb => ⟨by rwa [addEdge_size], h2, ready_add h3 (fun _ => hb), r2 (by simp [hb])⟩, ?_⟩
    by_cases hx : i = x
    · exact .inl ⟨by rwa [addEdge_size], h2, ready_add h3 (fun e => absurd (e.symm.trans hx) hne), r1 (by simp [hx])⟩
    · by_cases hb : i = b
      · exact .inr ⟨by rwa [addEdge_size], h2, ready_add h3 (fun e => absurd e hx), r2 (by simp [hb])⟩
      · rcases r3 with r3 | r3
        · exact .inl ⟨by rwa [addEdge_size], h2, ready_add h3 (fun e => absurd e hb), r3⟩
        · exact .inr ⟨by rwa [addEdge_size], h2, ready_add h3 (fun e => absurd e hx), r3⟩

/-- Either waits for the other: all that may be. -/
inductive Tr where
  | lf
  | nd (b x : Nat) (l r : Tr)
def Tr.ok : Tr → Bool
  | .lf => true
  | .nd b x l r => decide (b ≠ x) && l.ok && r.ok
def splits : Tr → Array Oper → List (Array Oper)
  | .lf, e => [e]
  | .nd b x l r, e => splits l (addEdge e b x) ++ splits r (addEdge e x b)

theorem splits_topo : ∀ (ps : Tr) (e : Array Oper) (done : Nat → Bool) (l : List Nat), ps.ok = true → TopoSeq e done l → ∃ e' ∈ splits ps e, e'.size = e.size ∧ TopoSeq e' done l
  | .lf, e, done, l, _, h => ⟨e, by simp [splits], rfl, h⟩
  | .nd b x pl pr, e, done, l, hp, h => by
    simp only [Tr.ok, Bool.and_eq_true, decide_eq_true_eq] at hp
    rcases (topo_split hp.1.1 l done h).2.2 with h1 | h1
    · obtain ⟨e', q1, q2, q3⟩ := splits_topo pl _ done l hp.1.2 h1
      exact ⟨e', by simp [splits, q1], q2.trans (addEdge_size _ _ _), q3⟩
    · obtain ⟨e', q1, q2, q3⟩ := splits_topo pr _ done l hp.2 h1
      exact ⟨e', by simp [splits, q1], q2.trans (addEdge_size _ _ _), q3⟩

/-- More of what must stand ahead. -/
def refineA (ops : Array Oper) (T : List Nat) : List Nat := ops.toList.map (ancRow T)
theorem refineA_ok {T : List Nat} (h : AncOk ops T) : AncOk ops (refineA ops T) := by
  intro i k hk done hc hr
  unfold anc refineA at hk
  cases ho : ops[i]? with
  | none =>
    have : (ops.toList.map (ancRow T)).getD i 0 = 0 := by
      simp only [List.getD, List.getElem?_map, Array.getElem?_toList, ho]; rfl
    rw [this] at hk; simp at hk
  | some o =>
    have : (ops.toList.map (ancRow T)).getD i 0 = ancRow T o := by
      simp only [List.getD, List.getElem?_map, Array.getElem?_toList, ho]; rfl
    rw [this] at hk
    rcases ancRow_bit hk with q | ⟨e', q1, q2, q3⟩
    · simp at q
    · have hd := hr o e' ho (by simpa using q1) q2
      rcases q3 with q3 | q3
      · exact q3 ▸ hd
      · exact h e'.on k q3 done hc (fun o2 e2 g1 g2 g3 => hc e'.on o2 e2 hd g1 g2 g3)
def ancs3 (ops : Array Oper) : List Nat := refineA ops (refineA ops (ancsGo ops.toList []))
theorem ancs3_ok (ops : Array Oper) : AncOk ops (ancs3 ops) := refineA_ok (refineA_ok (ancs_ok ops))

def chkX (ops : Array Oper) (e : Array Oper) (C : Ord) : Bool :=
  chk ops (ancs3 e) C && ((List.range ops.size).all fun i => (C.map (·.1)).contains i) && decide ((C.map (·.1)).Nodup) && (C.all fun q => decide (q.1 < ops.size))
def chkAll (ops : Array Oper) : List (Array Oper) → List Ord → Bool
  | [], [] => true
  | e :: es, C :: Cs => chkX ops e C && chkAll ops es Cs
  | _, _ => false
theorem chkAll_get : ∀ {es : List (Array Oper)} {Cs : List Ord}, chkAll ops es Cs = true → ∀ e ∈ es, ∃ C ∈ Cs, chkX ops e C = true
  | [], _, _, e, he => by simp at he
  | e' :: es, [], h, _, _ => by simp [chkAll] at h
  | e' :: es, C :: Cs, h, e, he => by
    simp only [chkAll, Bool.and_eq_true] at h
    rcases List.mem_cons.1 he with rfl | he
    · exact ⟨C, by simp, h.1⟩
    · obtain ⟨C', q1, q2⟩ := chkAll_get h.2 e he
      exact ⟨C', by simp [q1], q2⟩

def drawSB (ops : Array Oper) (ps : Tr) (Cs : List Ord) (L Ct Cg : List Nat) : Bool := schedB ops L Ct Cg && ps.ok && chkAll ops (splits ps ops) Cs

def aopsS (P : Program) (tt : TypeId → Option TI) (O : Array Oper) (K : St → Prop) (id : Nat) : List Ord → St → Prop
  | [], _ => True
  | C :: Cs, st => aopsD P tt O K id C st ∧ aopsS P tt O K id Cs st
theorem aopsS_nil (P : Program) (tt : TypeId → Option TI) (O : Array Oper) (K : St → Prop) (id : Nat) (st : St) : aopsS P tt O K id [] st = True := rfl
theorem aopsS_cons (P : Program) (tt : TypeId → Option TI) (O : Array Oper) (K : St → Prop) (id : Nat) (C : Ord) (Cs : List Ord) (st : St) : aopsS P tt O K id (C :: Cs) st = (aopsD P tt O K id C st ∧ aopsS P tt O K id Cs st) := rfl
theorem aopsS_get {O : Array Oper} {K : St → Prop} {id : Nat} : ∀ {Cs : List Ord} {st : St}, aopsS P tt O K id Cs st → ∀ C ∈ Cs, aopsD P tt O K id C st
  | [], _, _, C, hC => by simp at hC
  | C' :: Cs, st, h, C, hC => by
    rcases List.mem_cons.1 hC with rfl | hC
    · exact h.1
    · exact aopsS_get h.2 C hC

/-- A region that draws its order, in which pairs of effects wait for one another either way: each way ends where T is known. -/
theorem awp_drawS {Q : Exit → St → Prop} (ht : TTok P tt) (T : St) {rid : Nat} (ps : Tr) (Cs : List Ord) (L Ct Cg : List Nat) (hC : drawSB ops ps Cs L Ct Cg = true) (hQ : Q .normal T)
    (h : ∀ O : Array Oper, OpsAre O ops.toList 0 → aopsS P tt O (fun st' => T.le st') (rid * 1000 + 1000) Cs st) : AWP P E (.region rid ops true) Q st := by
  intro a w hR
  refine wp_region_draw fun t => ?_
  simp only [drawSB, Bool.and_eq_true] at hC
  obtain ⟨⟨h1, h2⟩, h3⟩ := hC
  have hs := schedule_topo2 h1 (P.follows .mixedOrders) t
  obtain ⟨e, he, hsz, hte⟩ := splits_topo ps ops _ _ h2 hs
  obtain ⟨C, hCm, hc⟩ := chkAll_get h3 e he
  obtain ⟨s', r1, r2⟩ := aopsD_run (E := E) ht (aopsS_get (h ops (opsAre_self ops _ 0 (by simp))) C hCm)
  simp only [chkX, Bool.and_eq_true, decide_eq_true_eq, List.all_eq_true] at hc
  have e1 : (C.filter fun q => !((fun _ => false) q.1)) = C := List.filter_eq_self.2 (fun _ _ => rfl)
  refine draw_exec2 hsz (ancs3_ok e) hc.1.1.1 (fun i hi => by simpa using hc.1.1.2 i (by simpa using hi)) hc.1.2 hc.2 _ (fun _ => false) st s' hte (fun j o e hj => by cases hj) (by rw [e1]; exact r1) _ a _ ?_ (fun a' w' hR' => ⟨T, hQ, hR'.le r2⟩)
  obtain ⟨ρ, I, hrb⟩ := hR
  exact ⟨ρ, I, hrb.drew⟩

/-! ### branches that meet again -/

def joinA (T : St) (Q : Exit → St → Prop) : Exit → St → Prop
  | .normal, st => T.le st
  | e, st => Q e st

theorem awp_join {c : Code} {Q : Exit → St → Prop} (T : St) (hQ : Q .normal T) (h : AWP P E c (joinA T Q) st) : AWP P E c Q st := by
  intro a w hR
  refine wp_mono (h a w hR) fun e a' w' ⟨s, h1, h2⟩ => ?_
  cases e with
  | normal => exact ⟨T, hQ, h2.le h1⟩
  | _ => exact ⟨s, h1, h2⟩

end
end Go.Ab
