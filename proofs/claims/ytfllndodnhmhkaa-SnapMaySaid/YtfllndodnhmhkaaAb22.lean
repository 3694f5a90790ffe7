/-
  ABSTRACT DATA FOR WALKS, 22: regions that draw the order of effects too; branches that meet again.
-/
import Derived.Test.YtfllndodnhmhkaaAb21
namespace Go.Ab
set_option linter.unusedSimpArgs false
set_option linter.unusedVariables false

def schedB (ops : Array Oper) (L Ct Cg : List Nat) : Bool := ordB .any ops L && (!Region.departs ops || (ordB .text ops Ct && ordB .gc ops Cg))

theorem schedule_topo2 {ops : Array Oper} {L Ct Cg : List Nat} (h : schedB ops L Ct Cg = true) (mixed : Bool) (t : Nat) : TopoSeq ops (fun _ => false) (Region.schedule mixed ops t) := by
  simp only [schedB, Bool.and_eq_true] at h
  have hall : ((List.range ops.size).filter fun i => !(Array.replicate ops.size false).getD i true) = List.range ops.size := by
    apply List.filter_eq_self.2
    intro i hi
    simp only [List.mem_range] at hi
    simp [Array.getD_eq_getD_getElem?, Array.getElem?_replicate, hi]
  have key : ∀ (m : Region.Mode) (L : List Nat), ordB m ops L = true → ∀ t, TopoSeq ops (fun _ => false) (Region.linearise m ops t) := by
    intro m L hL t
    obtain ⟨l, h1, h2⟩ := go_topo hL ops.size t (Array.replicate ops.size false) [] (by simp) (by rw [hall]; simp)
    unfold Region.linearise
    rw [h1]
    have e : (fun j => (Array.replicate ops.size false).getD j false) = fun _ => false := by
      funext j
      simp only [Array.getD_eq_getD_getElem?, Array.getElem?_replicate]
      split <;> rfl
    rw [e] at h2
    simpa using h2
  unfold Region.schedule
  split
  · exact key _ _ h.1 t
  · rename_i hm
    have hd : Region.departs ops = true := by
      cases hq : Region.departs ops with
      | true => rfl
      | false => simp [hq] at hm
    have h2 := h.2
    simp only [hd, Bool.not_true, Bool.false_or, Bool.and_eq_true] at h2
    split
    · exact key _ _ h2.1 _
    · exact key _ _ h2.2 _


section
variable {P : Program} {E : Ent} {st : St} {a : Act} {w : World} {ρ : Locs} {I : Imm} {tt : TypeId → Option TI} {ops : Array Oper}

theorem draw_exec2 {edg : Array Oper} (hsz : edg.size = ops.size) {A : List Nat} (hA : AncOk edg A) {C : Ord} (hchk : chk ops A C = true) (hall : ∀ i, i < ops.size → i ∈ C.map (·.1)) (hnd : (C.map (·.1)).Nodup) (hlt : ∀ q ∈ C, q.1 < ops.size) : ∀ (l : List Nat) (done : Nat → Bool) (s s' : St), TopoSeq edg done l → Closed edg done →
    DRun P E ops (C.filter fun q => !done q.1) s s' → ∀ (Q : Exit → Act → World → Prop) (a : Act) (w : World), R E s a w → (∀ a' w', R E s' a' w' → Q .normal a' w') → wpOps P ops Q l a w := by
  intro l
  induction l with
  | nil =>
    intro done s s' ht hc hrun Q a w hR hQ
    have hnil : (C.filter fun q => !done q.1) = [] := by
      apply List.filter_eq_nil_iff.2
      intro q hq
      simp [ht q.1 (by rw [hsz]; exact hlt q hq)]
    rw [hnil] at hrun
    cases hrun
    exact hQ a w hR
  | cons i l ih =>
    intro done s s' ht hc hrun Q a w hR hQ
    obtain ⟨hi, hdi, hready, ht'⟩ := ht
    obtain ⟨q, hqC, hqi⟩ := List.mem_map.1 (hall i (hsz ▸ hi))
    have hqin : q ∈ C.filter fun q => !done q.1 := List.mem_filter.2 ⟨hqC, by rw [hqi, hdi]; rfl⟩
    obtain ⟨pre, post, hsplit⟩ := List.append_of_mem hqin
    have hchk' : chk ops A (pre ++ q :: post) = true := by rw [← hsplit]; exact chk_filter hchk
    have hnotdone : ∀ x ∈ pre ++ q :: post, done x.1 = false := fun x hx => by
      rw [← hsplit] at hx
      simpa using (List.mem_filter.1 hx).2
    have hnoanc : ∀ x ∈ pre, anc A q.1 x.1 = false := by
      intro x hx
      cases ha : anc A q.1 x.1 with
      | false => rfl
      | true =>
        have := hA _ _ ha done hc (by rw [hqi]; exact hready)
        rw [hnotdone x (by simp [hx])] at this; cases this
    have hpre : ∀ x ∈ pre, x.2 = none ∧ ∀ ox oq, ops[x.1]? = some ox → ops[q.1]? = some oq → apartE ops ox oq = true ∧ dstNot (readsE ops ox) ox.dst = true ∧ ∀ fr, q.2 = some fr → x.1 ∈ fr := by
      intro x hx
      obtain ⟨l1, l2, hs⟩ := List.append_of_mem hx
      rw [hs] at hchk'
      simp only [List.append_assoc, List.cons_append] at hchk'
      obtain ⟨ox, oy, e1, e2, e3, _⟩ := chk2_pair (chk_pair hchk')
      unfold chkPair at e3
      rw [hnoanc x hx] at e3
      simp only [Bool.false_or, Bool.and_eq_true, Option.isNone_iff_eq_none] at e3
      refine ⟨e3.1.1.1, fun ox' oq' g1 g2 => ?_⟩
      rw [e1] at g1; rw [e2] at g2
      cases g1; cases g2
      refine ⟨e3.1.1.2, e3.1.2, fun fr hfr => ?_⟩
      have := e3.2
      rw [hfr] at this
      simpa using this
    have hpm : pre = (pre.map (·.1)).map (·, none) := by
      rw [List.map_map]
      conv => lhs; rw [← List.map_id pre]
      apply List.map_congr_left
      intro x hx
      have := (hpre x hx).1
      cases x; simp at this; simp [this]
    have hCl' : Closed edg (fun j => j == i || done j) := by
      intro j o e hj ho he hb
      simp only [Bool.or_eq_true, beq_iff_eq] at hj ⊢
      rcases hj with rfl | hj
      · exact .inr (hready o e ho he hb)
      · exact .inr (hc j o e hj ho he hb)
    have hfil : (C.filter fun q => !((fun j => j == i || done j) q.1)) = pre ++ post := by
      have e1 : (C.filter fun q => !((fun j => j == i || done j) q.1)) = (C.filter fun q => !done q.1).filter (fun q => q.1 != i) := by
        rw [List.filter_filter]
        apply List.filter_congr
        intro x _
        simp only [Bool.not_or, bne]
      have hndf : ((C.filter fun q => !done q.1).map (·.1)).Nodup := hnd.sublist (List.Sublist.map _ List.filter_sublist)
      rw [hsplit] at hndf
      rw [e1, hsplit, List.filter_append, List.filter_cons]
      have hne : (q.1 != i) = false := by simp [hqi]
      rw [hne]
      simp only [Bool.false_eq_true, if_false]
      rw [List.map_append, List.map_cons, List.nodup_append] at hndf
      have hA : pre.filter (fun q => q.1 != i) = pre := List.filter_eq_self.2 fun x hx => by
        have := hndf.2.2 x.1 (List.mem_map.2 ⟨x, hx, rfl⟩) q.1 (by simp)
        simp only [bne_iff_ne, ne_eq]
        rw [← hqi]; exact this
      have hB : post.filter (fun q => q.1 != i) = post := List.filter_eq_self.2 fun x hx => by
        have := (List.nodup_cons.1 hndf.2.1).1
        simp only [bne_iff_ne, ne_eq]
        rw [← hqi]
        intro e
        exact this (List.mem_map.2 ⟨x, hx, e⟩)
      rw [hA, hB]
    rw [hsplit, hpm] at hrun
    obtain ⟨s1, hl, hrun1⟩ := drun_split hrun
    have hmemP : ∀ k ∈ pre.map (·.1), ∃ x ∈ pre, x.1 = k := fun k hk => List.mem_map.1 hk
    obtain ⟨qi, q2⟩ := q
    simp only at hqi
    subst hqi
    cases q2 with
    | none =>
      cases hrun1 with
      | look _ _ o _ d _ ho u hs =>
        obtain ⟨u0, hl0⟩ := lrun_front hl u (fun k hk x hx => by
          obtain ⟨y, hy, rfl⟩ := hmemP k hk
          exact ((hpre y hy).2 x o hx ho).1)
        have hd2 := lrun_drun hl0 hs
        rw [← hpm, ← hfil] at hd2
        refine u0 s Agree.rfl' l Q a w hR fun a' w' hR' => ?_
        exact ih _ _ s' ht' hCl' hd2 Q a' w' hR' hQ
    | some fr =>
      cases hrun1 with
      | eff _ _ _ o _ K h d _ ho u hst hs =>
        obtain ⟨u0, hl0⟩ := eff_front hl u (fun k hk => by
          obtain ⟨y, hy, rfl⟩ := hmemP k hk
          obtain ⟨l1, l2, hs2⟩ := List.append_of_mem hy
          have hch := hchk'
          rw [hs2] at hch
          simp only [List.append_assoc, List.cons_append] at hch
          obtain ⟨ox, oy, e1, e2, _⟩ := chk2_pair (chk_pair hch)
          exact hst y.1 (((hpre y hy).2 ox o e1 ho).2.2 fr rfl)) (fun k hk x hx => by
          obtain ⟨y, hy, rfl⟩ := hmemP k hk
          have := (hpre y hy).2 x o hx ho
          exact ⟨this.1, this.2.1⟩) (by
          rw [List.pairwise_map, List.pairwise_iff_getElem]
          intro m n hm hn hmn x y hx hy
          -- y1 stands ahead of y2 in pre
          have hsp : ∃ l0 l1 l2, pre = l0 ++ pre[m] :: (l1 ++ pre[n] :: l2) := by
            refine ⟨pre.take m, (pre.drop (m + 1)).take (n - (m + 1)), pre.drop (n + 1), ?_⟩
            have e1 : pre = pre.take m ++ pre.drop m := (List.take_append_drop m pre).symm
            have e2 : pre.drop m = pre[m] :: pre.drop (m + 1) := List.drop_eq_getElem_cons hm
            have e3 : pre.drop (m + 1) = (pre.drop (m + 1)).take (n - (m + 1)) ++ (pre.drop (m + 1)).drop (n - (m + 1)) := (List.take_append_drop _ _).symm
            have e4 : (pre.drop (m + 1)).drop (n - (m + 1)) = pre.drop n := by rw [List.drop_drop]; congr 1; omega
            have e5 : pre.drop n = pre[n] :: pre.drop (n + 1) := List.drop_eq_getElem_cons hn
            rw [← e5, ← e4, ← e3, ← e2, ← e1]
          obtain ⟨l0, l1, l2, hs2⟩ := hsp
          have hch := hchk'
          rw [hs2] at hch
          simp only [List.append_assoc, List.cons_append] at hch
          obtain ⟨ox, oy, e1, e2, _, e4⟩ := chk2_pair (chk_pair hch)
          rw [hx] at e1; rw [hy] at e2
          cases e1; cases e2
          simp only [Bool.or_eq_true, Bool.and_eq_true] at e4
          rcases e4 with e4 | e4
          · exact e4
          · exfalso
            have := List.all_eq_true.1 e4 (qi, some fr) (by simp)
            simp only [Option.isNone_some, Bool.false_or, Bool.or_eq_true] at this
            rcases this with q | q
            · rw [hnoanc _ (List.getElem_mem hm)] at q; cases q
            · rw [hnoanc _ (List.getElem_mem hn)] at q; cases q)
        have hd2 := lrun_drun hl0 hs
        rw [← hpm, ← hfil] at hd2
        refine u0 s Agree.rfl' l Q a w hR fun a' w' hR' => ?_
        exact ih _ _ s' ht' hCl' hd2 Q a' w' hR' hQ


/-- Operation b waits for operation x. -/
def addEdge (ops : Array Oper) (b x : Nat) : Array Oper := ops.modify b fun o => { o with after := o.after.push ⟨x, .data⟩ }
theorem addEdge_size (ops : Array Oper) (b x : Nat) : (addEdge ops b x).size = ops.size := by simp [addEdge]
theorem addEdge_get {ops : Array Oper} {b x i : Nat} {o : Oper} (h : (addEdge ops b x)[i]? = some o) : ∃ o', ops[i]? = some o' ∧ ((i = b ∧ o = { o' with after := o'.after.push ⟨x, .data⟩ }) ∨ (i ≠ b ∧ o = o')) := by
  unfold addEdge at h
  rw [Array.getElem?_modify] at h
  split at h
  · rename_i e
    cases h2 : ops[i]? with
    | none => simp [h2] at h
    | some o' =>
      simp [h2] at h
      exact ⟨o', rfl, .inl ⟨e.symm, h.symm⟩⟩
  · rename_i e
    exact ⟨o, h, .inr ⟨fun q => e q.symm, rfl⟩⟩

theorem ready_add {b x i : Nat} {done : Nat → Bool} (h : Ready ops done i) (hx : i = b → done x = true) : Ready (addEdge ops b x) done i := by
  intro o e ho he hb
  obtain ⟨o', h1, ⟨h2, rfl⟩ | ⟨h2, rfl⟩⟩ := addEdge_get ho
  · simp only [Array.mem_push] at he
    rcases he with he | rfl
    · exact h o' e h1 he hb
    · exact hx h2
  · exact h o e h1 he hb

theorem topo_split {b x : Nat} (hne : b ≠ x) : ∀ (l : List Nat) (done : Nat → Bool), TopoSeq ops done l → (done x = true → TopoSeq (addEdge ops b x) done l) ∧ (done b = true → TopoSeq (addEdge ops x b) done l) ∧ (TopoSeq (addEdge ops b x) done l ∨ TopoSeq (addEdge ops x b) done l)
  | [], done, h => ⟨fun _ i hi => h i (by rwa [addEdge_size] at hi), fun _ i hi => h i (by rwa [addEdge_size] at hi), .inl fun i hi => h i (by rwa [addEdge_size] at hi)⟩
  | i :: l, done, ⟨h1, h2, h3, h4⟩ => by
    obtain ⟨r1, r2, r3⟩ := topo_split hne l _ h4
    refine ⟨fun hx => ⟨by rwa [addEdge_size], h2, ready_add h3 (fun _ => hx), r1 (by simp [hx])⟩, fun hb => ⟨by rwa [addEdge_size], h2, ready_add h3 (fun _ => hb), r2 (by simp [hb])⟩, ?_⟩
    by_cases hx : i = x
    · exact .inl ⟨by rwa [addEdge_size], h2, ready_add h3 (fun e => absurd (e.symm.trans hx) hne), r1 (by simp [hx])⟩
    · by_cases hb : i = b
      · exact .inr ⟨by rwa [addEdge_size], h2, ready_add h3 (fun e => absurd e hx), r2 (by simp [hb])⟩
      · rcases r3 with r3 | r3
        · exact .inl ⟨by rwa [addEdge_size], h2, ready_add h3 (fun e => absurd e hb), r3⟩
        · exact .inr ⟨by rwa [addEdge_size], h2, ready_add h3 (fun e => absurd e hx), r3⟩

/-- Either waits for the other: all that may be. -/
inductive Tr where
  | lf
  | nd (b x : Nat) (l r : Tr)
def Tr.ok : Tr → Bool
  | .lf => true
  | .nd b x l r => decide (b ≠ x) && l.ok && r.ok
def splits : Tr → Array Oper → List (Array Oper)
  | .lf, e => [e]
  | .nd b x l r, e => splits l (addEdge e b x) ++ splits r (addEdge e x b)

theorem splits_topo : ∀ (ps : Tr) (e : Array Oper) (done : Nat → Bool) (l : List Nat), ps.ok = true → TopoSeq e done l → ∃ e' ∈ splits ps e, e'.size = e.size ∧ TopoSeq e' done l
  | .lf, e, done, l, _, h => ⟨e, by simp [splits], rfl, h⟩
  | .nd b x pl pr, e, done, l, hp, h => by
    simp only [Tr.ok, Bool.and_eq_true, decide_eq_true_eq] at hp
    rcases (topo_split hp.1.1 l done h).2.2 with h1 | h1
    · obtain ⟨e', q1, q2, q3⟩ := splits_topo pl _ done l hp.1.2 h1
      exact ⟨e', by simp [splits, q1], q2.trans (addEdge_size _ _ _), q3⟩
    · obtain ⟨e', q1, q2, q3⟩ := splits_topo pr _ done l hp.2 h1
      exact ⟨e', by simp [splits, q1], q2.trans (addEdge_size _ _ _), q3⟩

/-- More of what must stand ahead. -/
def refineA (ops : Array Oper) (T : List Nat) : List Nat := ops.toList.map (ancRow T)
theorem refineA_ok {T : List Nat} (h : AncOk ops T) : AncOk ops (refineA ops T) := by
  intro i k hk done hc hr
  unfold anc refineA at hk
  cases ho : ops[i]? with
  | none =>
    have : (ops.toList.map (ancRow T)).getD i 0 = 0 := by
      simp only [List.getD, List.getElem?_map, Array.getElem?_toList, ho]; rfl
    rw [this] at hk; simp at hk
  | some o =>
    have : (ops.toList.map (ancRow T)).getD i 0 = ancRow T o := by
      simp only [List.getD, List.getElem?_map, Array.getElem?_toList, ho]; rfl
    rw [this] at hk
    rcases ancRow_bit hk with q | ⟨e', q1, q2, q3⟩
    · simp at q
    · have hd := hr o e' ho (by simpa using q1) q2
      rcases q3 with q3 | q3
      · exact q3 ▸ hd
      · exact h e'.on k q3 done hc (fun o2 e2 g1 g2 g3 => hc e'.on o2 e2 hd g1 g2 g3)
def ancs3 (ops : Array Oper) : List Nat := refineA ops (refineA ops (ancsGo ops.toList []))
theorem ancs3_ok (ops : Array Oper) : AncOk ops (ancs3 ops) := refineA_ok (refineA_ok (ancs_ok ops))

def chkX (ops : Array Oper) (e : Array Oper) (C : Ord) : Bool :=
  chk ops (ancs3 e) C && ((List.range ops.size).all fun i => (C.map (·.1)).contains i) && decide ((C.map (·.1)).Nodup) && (C.all fun q => decide (q.1 < ops.size))
def chkAll (ops : Array Oper) : List (Array Oper) → List Ord → Bool
  | [], [] => true
  | e :: es, C :: Cs => chkX ops e C && chkAll ops es Cs
  | _, _ => false
theorem chkAll_get : ∀ {es : List (Array Oper)} {Cs : List Ord}, chkAll ops es Cs = true → ∀ e ∈ es, ∃ C ∈ Cs, chkX ops e C = true
  | [], _, _, e, he => by simp at he
  | e' :: es, [], h, _, _ => by simp [chkAll] at h
  | e' :: es, C :: Cs, h, e, he => by
    simp only [chkAll, Bool.and_eq_true] at h
    rcases List.mem_cons.1 he with rfl | he
    · exact ⟨C, by simp, h.1⟩
    · obtain ⟨C', q1, q2⟩ := chkAll_get h.2 e he
      exact ⟨C', by simp [q1], q2⟩

def drawSB (ops : Array Oper) (ps : Tr) (Cs : List Ord) (L Ct Cg : List Nat) : Bool := schedB ops L Ct Cg && ps.ok && chkAll ops (splits ps ops) Cs

def aopsS (P : Program) (tt : TypeId → Option TI) (O : Array Oper) (K : St → Prop) (id : Nat) : List Ord → St → Prop
  | [], _ => True
  | C :: Cs, st => aopsD P tt O K id C st ∧ aopsS P tt O K id Cs st
theorem aopsS_nil (P : Program) (tt : TypeId → Option TI) (O : Array Oper) (K : St → Prop) (id : Nat) (st : St) : aopsS P tt O K id [] st = True := rfl
theorem aopsS_cons (P : Program) (tt : TypeId → Option TI) (O : Array Oper) (K : St → Prop) (id : Nat) (C : Ord) (Cs : List Ord) (st : St) : aopsS P tt O K id (C :: Cs) st = (aopsD P tt O K id C st ∧ aopsS P tt O K id Cs st) := rfl
theorem aopsS_get {O : Array Oper} {K : St → Prop} {id : Nat} : ∀ {Cs : List Ord} {st : St}, aopsS P tt O K id Cs st → ∀ C ∈ Cs, aopsD P tt O K id C st
  | [], _, _, C, hC => by simp at hC
  | C' :: Cs, st, h, C, hC => by
    rcases List.mem_cons.1 hC with rfl | hC
    · exact h.1
    · exact aopsS_get h.2 C hC

/-- A region that draws its order, in which pairs of effects wait for one another either way: each way ends where T is known. -/
theorem awp_drawS {Q : Exit → St → Prop} (ht : TTok P tt) (T : St) {rid : Nat} (ps : Tr) (Cs : List Ord) (L Ct Cg : List Nat) (hC : drawSB ops ps Cs L Ct Cg = true) (hQ : Q .normal T)
    (h : ∀ O : Array Oper, OpsAre O ops.toList 0 → aopsS P tt O (fun st' => T.le st') (rid * 1000 + 1000) Cs st) : AWP P E (.region rid ops true) Q st := by
  intro a w hR
  refine wp_region_draw fun t => ?_
  simp only [drawSB, Bool.and_eq_true] at hC
  obtain ⟨⟨h1, h2⟩, h3⟩ := hC
  have hs := schedule_topo2 h1 (P.follows .mixedOrders) t
  obtain ⟨e, he, hsz, hte⟩ := splits_topo ps ops _ _ h2 hs
  obtain ⟨C, hCm, hc⟩ := chkAll_get h3 e he
  obtain ⟨s', r1, r2⟩ := aopsD_run (E := E) ht (aopsS_get (h ops (opsAre_self ops _ 0 (by simp))) C hCm)
  simp only [chkX, Bool.and_eq_true, decide_eq_true_eq, List.all_eq_true] at hc
  have e1 : (C.filter fun q => !((fun _ => false) q.1)) = C := List.filter_eq_self.2 (fun _ _ => rfl)
  refine draw_exec2 hsz (ancs3_ok e) hc.1.1.1 (fun i hi => by simpa using hc.1.1.2 i (by simpa using hi)) hc.1.2 hc.2 _ (fun _ => false) st s' hte (fun j o e hj => by cases hj) (by rw [e1]; exact r1) _ a _ ?_ (fun a' w' hR' => ⟨T, hQ, hR'.le r2⟩)
  obtain ⟨ρ, I, hrb⟩ := hR
  exact ⟨ρ, I, hrb.drew⟩

/-! ### branches that meet again -/

def joinA (T : St) (Q : Exit → St → Prop) : Exit → St → Prop
  | .normal, st => T.le st
  | e, st => Q e st

theorem awp_join {c : Code} {Q : Exit → St → Prop} (T : St) (hQ : Q .normal T) (h : AWP P E c (joinA T Q) st) : AWP P E c Q st := by
  intro a w hR
  refine wp_mono (h a w hR) fun e a' w' ⟨s, h1, h2⟩ => ?_
  cases e with
  | normal => exact ⟨T, hQ, h2.le h1⟩
  | _ => exact ⟨s, h1, h2⟩

end

/-! ABSTRACT DATA FOR WALKS, 23: objects whose cells name no ids any more; objects whose cells may. -/

section
variable {P : Program} {E : Ent} {st : St} {tt : TypeId → Option TI}

/-- Its cells may name ids from now on. -/
def St.unflat (st : St) (id : Nat) : St := { st with heap := fun k => if k = id then (st.heap k).map fun o => { o with flat := false } else st.heap k }

theorem LaidObj.unflat {I : Imm} {ρ : Locs} {w : World} {o : AObj} {l : Loc} (h : LaidObj I ρ w o l) : LaidObj I ρ w { o with flat := false } l := by
  refine ⟨h.sz, h.pos, h.rows, h.cap, ?_⟩
  rcases h.mem with g0 | ⟨b, c, e, lo, hi, g1, g2, g3, g4, g5, g6, hone, g7⟩
  · exact .inl g0
  · refine .inr ⟨b, c, e, lo, hi, g1, g2, g3, g4, g5, g6, hone, fun i j row d x q1 q2 q3 => ?_⟩
    have := g7 i j row d x q1 q2 q3
    simp only [Bool.false_eq_true, if_false]
    split at this
    · exact this.mono (fun id l hl => by cases hl)
    · exact this

theorem unflat_some {id k : Nat} {o : AObj} (h : (st.unflat id).heap k = some o) : ∃ o0, st.heap k = some o0 ∧ o.wr = o0.wr ∧ o.pin = o0.pin ∧ (o = o0 ∨ o = { o0 with flat := false }) := by
  simp only [St.unflat] at h
  split at h
  · obtain ⟨o0, h1, rfl⟩ := Option.map_eq_some_iff.1 h
    exact ⟨o0, h1, rfl, rfl, .inr rfl⟩
  · exact ⟨o, h, rfl, rfl, .inl rfl⟩

theorem awp_unflat {c : Code} {Q : Exit → St → Prop} (id : Nat) (h : AWP P E c Q (st.unflat id)) : AWP P E c Q st := by
  refine fun a w hR => h a w ?_
  obtain ⟨ρ, I, hrb⟩ := hR
  refine ⟨ρ, I, ⟨hrb.size, hrb.defers, hrb.slots, ⟨fun k o ho => ?_, fun i1 o1 l1 i2 o2 l2 b h1 m1 e1 b1 h2 m2 e2 b2 => ?_, hrb.mem.imm⟩, hrb.i0, hrb.i1, hrb.ext, fun k o l b ho hw hl hb => ?_, fun k o ho hp => ?_⟩⟩
  · obtain ⟨o0, q1, _, _, q4⟩ := unflat_some ho
    obtain ⟨l, el, hl⟩ := hrb.mem.laid k o0 q1
    rcases q4 with rfl | rfl
    · exact ⟨l, el, hl⟩
    · exact ⟨l, el, hl.unflat⟩
  · obtain ⟨p1, q1, q2, _⟩ := unflat_some h1
    obtain ⟨p2, r1, r2, _⟩ := unflat_some h2
    exact hrb.mem.apart _ _ _ _ _ _ _ q1 (q2.symm.trans m1) e1 b1 r1 (r2.symm.trans m2) e2 b2
  · obtain ⟨o0, q1, q2, _⟩ := unflat_some ho
    exact hrb.fresh _ _ _ _ q1 (q2.symm.trans hw) hl hb
  · obtain ⟨o0, q1, _, q3, _⟩ := unflat_some ho
    exact hrb.pins _ _ q1 (q3.symm.trans hp)

/-- What its cells name is written no more: they name no ids. -/
def St.pureObj (st : St) (id : Nat) (ids : List Nat) (o : AObj) (rows : List (List D)) : St := { st.freeze ids with heap := upd (st.freeze ids).heap id { o with rows := rows, flat := true } }

theorem awp_pureO {c : Code} {Q : Exit → St → Prop} (id : Nat) {o : AObj} {ids : List Nat} {p : Prop} {rows : List (List D)} (ho : st.heap id = some o) (hf : o.flat = false) (he : purLL (pur st.heap 4) o.rows = some (ids, p, rows)) (hp : p) (hid : id ∉ ids) (h : AWP P E c Q (st.pureObj id ids o rows)) : AWP P E c Q st := by
  refine fun a w hR => h a w ?_
  obtain ⟨ρ, I, hrb⟩ := hR
  obtain ⟨J, hJ, h'⟩ := hrb.freeze ids
  have hpk := pur_ok (I := J) (ρ := ρ) (w := w) h'.mem hrb.rowsLen 4
  obtain ⟨r1, r2, r3⟩ := purLL_ok hpk he hp (frozenBy_freeze ids)
  have hfz : (st.freeze ids).heap id = some o := by simp [St.freeze, ho, hid]
  have hget : ∀ k o1, (st.pureObj id ids o rows).heap k = some o1 → ∃ o0, (st.freeze ids).heap k = some o0 ∧ o1.wr = o0.wr ∧ o1.pin = o0.pin ∧ ((k = id ∧ o1 = { o with rows := rows, flat := true }) ∨ (k ≠ id ∧ o1 = o0)) := fun k o1 hk => by
    simp only [St.pureObj, upd] at hk
    split at hk
    · rename_i e
      cases hk
      subst e
      exact ⟨o, hfz, rfl, rfl, .inl ⟨rfl, rfl⟩⟩
    · rename_i e
      exact ⟨o1, hk, rfl, rfl, .inr ⟨e, rfl⟩⟩
  refine ⟨ρ, J, ⟨h'.size, h'.defers, h'.slots, ⟨fun k o1 hk => ?_, fun i1 o1 l1 i2 o2 l2 b h1 m1 e1 b1 h2 m2 e2 b2 => ?_, h'.mem.imm⟩, h'.i0, h'.i1, h'.ext, fun k o1 l b hk hw hl hb => ?_, fun k o1 hk hp => ?_⟩⟩
  · obtain ⟨o0, q1, q2, q3, ⟨rfl, rfl⟩ | ⟨hne, rfl⟩⟩ := hget k o1 hk
    · rw [hfz] at q1; cases q1
      obtain ⟨l, el, hl⟩ := h'.mem.laid k o hfz
      refine ⟨l, el, hl.sz, hl.pos, fun row hr => ?_, by simp only; rw [r1]; exact hl.cap, ?_⟩
      · obtain ⟨i, hi⟩ := List.getElem?_of_mem hr
        obtain ⟨row0, g1, g2⟩ := r2 i row hi
        rw [g2]
        exact hl.rows row0 (List.mem_of_getElem? g1)
      · rcases hl.mem with g0 | ⟨b, c, e, lo, hi, g1, g2, g3, g4, g5, g6, hone, g7⟩
        · exact .inl g0
        · refine .inr ⟨b, c, e, lo, hi, g1, g2, g3, g4, g5, g6, hone, fun i j row d x q1 q2 q3 => ?_⟩
          simp only [if_true]
          refine r3 i j row d x q1 q2 fun row0 d0 hr0 hd0 => ?_
          have := g7 i j row0 d0 x hr0 hd0 q3
          rw [hf] at this
          simpa using this
    · exact (h'.mem.laid k o1 q1).imp fun l hl => ⟨hl.1, hl.2⟩
  · obtain ⟨p1, q1, q2, _⟩ := hget i1 o1 h1
    obtain ⟨p2, s1, s2, _⟩ := hget i2 o2 h2
    exact h'.mem.apart _ _ _ _ _ _ _ q1 (q2.symm.trans m1) e1 b1 s1 (s2.symm.trans m2) e2 b2
  · obtain ⟨o0, q1, q2, _⟩ := hget k o1 hk
    exact h'.fresh _ _ _ _ q1 (q2.symm.trans hw) hl hb
  · obtain ⟨o0, q1, _, q3, _⟩ := hget k o1 hk
    exact h'.pins _ _ q1 (q3.symm.trans hp)

end

/-! ABSTRACT DATA FOR WALKS, 24: a loop left at more places than one. -/

section
variable {P : Program} {E : Ent} {st : St}

def joinX {X : Type} (id : Nat) (T : X → St) (Inv : X → Prop) (Q : Exit → St → Prop) : Exit → St → Prop
  | .exit i, st => if i = id then ∃ x, Inv x ∧ (T x).le st else Q (.exit i) st
  | e, st => Q e st

theorem awp_joinX {X : Type} {c : Code} {Q : Exit → St → Prop} (id : Nat) (T : X → St) (Inv : X → Prop) (hQ : ∀ x, Inv x → Q (.exit id) (T x)) (h : AWP P E c (joinX id T Inv Q) st) : AWP P E c Q st := by
  intro a w hR
  refine wp_mono (h a w hR) fun e a' w' ⟨s, h1, h2⟩ => ?_
  cases e with
  | exit i =>
    simp only [joinX] at h1
    split at h1
    · rename_i hi
      subst hi
      obtain ⟨x, q1, q2⟩ := h1
      exact ⟨T x, hQ x q1, h2.le q2⟩
    · exact ⟨s, h1, h2⟩
  | _ => exact ⟨s, h1, h2⟩

/-- The same, where code ends as usual, or in any of some states. -/
def joinN {X : Type} (T : X → St) (Inv : X → Prop) (Q : Exit → St → Prop) : Exit → St → Prop
  | .normal, st => ∃ x, Inv x ∧ (T x).le st
  | e, st => Q e st

theorem awp_joinN {X : Type} {c : Code} {Q : Exit → St → Prop} (T : X → St) (Inv : X → Prop) (hQ : ∀ x, Inv x → Q .normal (T x)) (h : AWP P E c (joinN T Inv Q) st) : AWP P E c Q st := by
  intro a w hR
  refine wp_mono (h a w hR) fun e a' w' ⟨s, h1, h2⟩ => ?_
  cases e with
  | normal =>
    obtain ⟨x, q1, q2⟩ := h1
    exact ⟨T x, hQ x q1, h2.le q2⟩
  | _ => exact ⟨s, h1, h2⟩

end

/-! ABSTRACT DATA FOR WALKS, 25: a value as it is. -/

section
variable {P : Program} {E : Ent} {st : St}

/-- A region that lays one value. -/
theorem awp_assign_v {rid : Nat} {o : Oper} {v : Value} {Q : Exit → St → Prop} (ho : o.op = .assign (.const v)) (hg : o.guard = none) (hf : st.fits o.dst = true) (h : Q .normal (st.put o.dst (.v v))) : AWP P E (.region rid #[o] false) Q st := by
  intro a w hR
  obtain ⟨ρ, I, hrb⟩ := hR
  refine wp_region ?_
  have hw : st.want #[o] o = some true := by simp [St.want, hg]
  have hop : #[o][0]? = some o := rfl
  show wpOps P #[o] _ [0] a w
  simp only [wpOps, hop]
  rw [hrb.want hw]
  simp only [if_true]
  left
  unfold Oper.wp
  have : (execOp a.eval o).run P w = .ok (.value v) w := by
    unfold execOp
    rw [ho]
    rfl
  rw [this]
  exact ⟨_, h, ρ, I, hrb.put hf (.v _ _)⟩

end

/-! ABSTRACT DATA FOR WALKS, 26: a nil slice in an object's cell is an empty object of one's own. -/

section
variable {P : Program} {E : Ent} {st : St}

def St.toOwnC (st : St) (id r j nid sz : Nat) (o : AObj) (row : List D) : St := { (st.bind nid { sz := sz, rows := [] }) with heap := upd (st.bind nid { sz := sz, rows := [] }).heap id { o with rows := o.rows.set r (row.set j (.own nid 0 0)) } }

theorem rep_nilOwn {I : Imm} {ρ : Locs} {x : Value} {id sz : Nat} (h : Rep I ρ (.sl true []) x) (hl : ρ id = some ⟨none, 0, 0, sz⟩) : Rep I ρ (.own id 0 0) x := by
  cases h with
  | nil _ _ ad cap hf =>
    have := hf rfl
    subst this
    have := Rep.own (I := I) ρ id 0 0 ⟨none, 0, 0, sz⟩ ad hl (by simp) (.inl rfl)
    simpa using this
  | sl _ _ _ b o cap sz' c hI hs hc hcap hf h1 hh =>
    have := hf rfl
    simp at this
    subst this
    have := Rep.own (I := I) ρ id 0 0 ⟨none, 0, 0, sz⟩ (some ⟨b, o, none⟩) hl (by simp) (.inl rfl)
    simpa using this

theorem awp_own_nilC {c : Code} {Q : Exit → St → Prop} (id r j nid sz : Nat) {o : AObj} {row : List D} (hsz : 0 < sz) (ho : (st.bind nid { sz := sz, rows := [] }).heap id = some o) (hr : o.rows[r]? = some row) (hj : row[j]? = some (.sl true [])) (hf : o.flat = false)
    (hc : AWP P E c Q (st.toOwnC id r j nid sz o row)) : AWP P E c Q st := by
  refine fun a w hR => hc a w ?_
  obtain ⟨ρ, I, hrb⟩ := hR
  have hl : LaidObj I ρ w { sz := sz, rows := [] } ⟨none, 0, 0, sz⟩ := ⟨rfl, hsz, by simp, by simp, .inl ⟨rfl, rfl⟩⟩
  have h' := hrb.adopt (id := nid) hl (fun b hb => by cases hb) (fun b hb => by cases hb)
  refine ⟨_, I, ⟨h'.size, h'.defers, h'.slots, ⟨fun k o1 hk => ?_, fun i1 o1 l1 i2 o2 l2 b h1 m1 e1 b1 h2 m2 e2 b2 => ?_, h'.mem.imm⟩, h'.i0, h'.i1, h'.ext, fun k o1 l b hk hw hl hb => ?_, fun k o1 hk hp => ?_⟩⟩
  · simp only [St.toOwnC, upd] at hk
    split at hk
    · rename_i e
      subst e
      simp only [Option.some.injEq] at hk
      subst hk
      obtain ⟨l, el, hl⟩ := h'.mem.laid k o ho
      refine ⟨l, el, hl.sz, hl.pos, fun row1 h1 => ?_, by simpa using hl.cap, ?_⟩
      · rcases List.mem_or_eq_of_mem_set h1 with q | q
        · exact hl.rows row1 q
        · subst q
          simpa using hl.rows row (List.mem_of_getElem? hr)
      · rcases hl.mem with g0 | ⟨b, cc, e, lo, hi, g1, g2, g3, g4, g5, g6, hone, g7⟩
        · exact .inl g0
        · refine .inr ⟨b, cc, e, lo, hi, g1, g2, g3, g4, g5, g6, hone, fun i jj row1 d x q1 q2 q3 => ?_⟩
          simp only [hf, Bool.false_eq_true, if_false] at g7 ⊢
          have hrl : r < o.rows.length := by
            rcases Nat.lt_or_ge r o.rows.length with q | q
            · exact q
            · rw [List.getElem?_eq_none q] at hr; cases hr
          have hjl : j < row.length := by
            rcases Nat.lt_or_ge j row.length with q | q
            · exact q
            · rw [List.getElem?_eq_none q] at hj; cases hj
          by_cases ei : r = i
          · subst ei
            rw [List.getElem?_set_self hrl] at q1
            simp only [Option.some.injEq] at q1
            subst q1
            by_cases ej : j = jj
            · subst ej
              rw [List.getElem?_set_self hjl] at q2
              simp only [Option.some.injEq] at q2
              subst q2
              exact rep_nilOwn (g7 r j row _ x hr hj q3) updL_eq
            · rw [List.getElem?_set_ne ej] at q2
              exact g7 r jj row d x hr q2 q3
          · rw [List.getElem?_set_ne ei] at q1
            exact g7 i jj row1 d x q1 q2 q3
    · exact h'.mem.laid k o1 hk
  · have key : ∀ k ox, (st.toOwnC id r j nid sz o row).heap k = some ox → ∃ oy, (st.bind nid { sz := sz, rows := [] }).heap k = some oy ∧ oy.wr = ox.wr := fun k ox hk => by
      simp only [St.toOwnC, upd] at hk
      split at hk
      · rename_i e; subst e; simp only [Option.some.injEq] at hk; subst hk; exact ⟨o, ho, rfl⟩
      · exact ⟨ox, hk, rfl⟩
    obtain ⟨y1, q1, r1⟩ := key _ _ h1
    obtain ⟨y2, q2, r2⟩ := key _ _ h2
    exact h'.mem.apart _ _ _ _ _ _ _ q1 (r1.trans m1) e1 b1 q2 (r2.trans m2) e2 b2
  · simp only [St.toOwnC, upd] at hk
    split at hk
    · rename_i e; subst e; simp only [Option.some.injEq] at hk; subst hk; exact h'.fresh _ _ _ _ ho hw hl hb
    · exact h'.fresh _ _ _ _ hk hw hl hb
  · simp only [St.toOwnC, upd] at hk
    split at hk
    · rename_i e; subst e; simp only [Option.some.injEq] at hk; subst hk; exact h'.pins _ _ ho hp
    · exact h'.pins _ _ hk hp

end
end Go.Ab
