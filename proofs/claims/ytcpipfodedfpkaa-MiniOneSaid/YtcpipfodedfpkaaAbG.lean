import Derived.Test.YtcpipfodedfpkaaAbE
namespace Go.Ab
set_option linter.unusedSimpArgs false
set_option linter.unusedVariables false
structure GE where
  e : Nat
  m' : Nat
  fr : List Nat
  nw : List Nat
structure GN where
  m : Nat
  X : List Nat
  es : List GE
def pairsB (ops : Array Oper) (A : List Nat) : List Nat → Bool
  | [] => true
  | x :: l => (l.all fun y => match ops[x]?, ops[y]? with
    | some ox, some oy => (anc A y x || apartE ops ox oy) && dstNot (readsE ops ox) oy.dst && dstNe oy.dst ox.dst
    | _, _ => false) && pairsB ops A l
def geB (ops : Array Oper) (A effs : List Nat) (nodes : List GN) (n : GN) (g : GE) : Bool :=
  decide (g.m' = n.m ||| (1 <<< g.e)) && effs.contains g.e && (nodes.any fun n' => n'.m == g.m' && n'.X == n.X ++ g.nw) &&
  (match ops[g.e]? with
    | some oe => n.X.all fun x => match ops[x]? with
      | some ox => anc A g.e x || (apartE ops ox oe && dstNot (readsE ops ox) ox.dst && g.fr.contains x)
      | none => false
    | none => false)
def gnB (ops : Array Oper) (A effs : List Nat) (nodes : List GN) (n : GN) : Bool :=
  (n.es.all (geB ops A effs nodes n)) && (effs.all fun i => n.m.testBit i || (effs.any fun k => anc A i k && !n.m.testBit k) || n.es.any (fun g => g.e == i)) &&
  ((List.range ops.size).all fun x => effs.contains x || (effs.any fun k => anc A x k && !n.m.testBit k) || n.X.contains x) && pairsB ops A n.X && decide n.X.Nodup && (n.X.all fun x => !effs.contains x && decide (x < ops.size))
def grB (ops : Array Oper) (effs : List Nat) (nodes : List GN) (L Ct Cg : List Nat) : Bool :=
  schedB ops L Ct Cg && (nodes.all (gnB ops (ancsGo ops.toList []) effs nodes)) && (nodes.any fun n => n.m == 0)
section
variable {P : Program} {E : Ent} {st : St} {tt : TypeId → Option TI} {ops : Array Oper}
theorem pairsB_pw {A : List Nat} : ∀ {l : List Nat}, pairsB ops A l = true → l.Pairwise fun x y => ∃ ox oy, ops[x]? = some ox ∧ ops[y]? = some oy ∧ (anc A y x = true ∨ apartE ops ox oy = true) ∧ dstNot (readsE ops ox) oy.dst = true ∧ dstNe oy.dst ox.dst = true
  | [], _ => List.Pairwise.nil
  | x :: l, h => by
    simp only [pairsB, Bool.and_eq_true, List.all_eq_true] at h
    refine List.Pairwise.cons (fun y hy => ?_) (pairsB_pw h.2)
    have := h.1 y hy
    split at this
    · rename_i ox oy e1 e2
      simp only [Bool.and_eq_true, Bool.or_eq_true] at this
      exact ⟨ox, oy, e1, e2, this.1.1, this.1.2, this.2⟩
    · cases this
theorem lrun_app {post : List Nat} : ∀ {pre : List Nat} {s s1 s2 : St}, LRun P E ops pre s s1 → LRun P E ops post s1 s2 → LRun P E ops (pre ++ post) s s2
  | [], s, s1, s2, h, h2 => by simp only [LRun] at h; subst h; exact h2
  | i :: pre, s, s1, s2, ⟨o, d, ho, u, hr⟩, h2 => ⟨o, d, ho, u, lrun_app hr h2⟩
theorem lrun_split {post : List Nat} : ∀ {pre : List Nat} {s s2 : St}, LRun P E ops (pre ++ post) s s2 → ∃ s1, LRun P E ops pre s s1 ∧ LRun P E ops post s1 s2
  | [], s, s2, h => ⟨s, rfl, h⟩
  | i :: pre, s, s2, ⟨o, d, ho, u, hr⟩ => by
    obtain ⟨s1, h1, h2⟩ := lrun_split hr
    exact ⟨s1, ⟨o, d, ho, u, h1⟩, h2⟩
theorem drun_looks : ∀ {l : List Nat} {s s2 : St}, DRun P E ops (l.map fun x => (x, none)) s s2 → LRun P E ops l s s2
  | [], s, s2, h => by cases h; rfl
  | i :: l, s, s2, h => by
    simp only [List.map_cons] at h
    cases h with
    | look _ _ o _ d _ ho u hs => exact ⟨o, d, ho, u, drun_looks hs⟩
def EdgeOk (P : Program) (E : Ent) (ops : Array Oper) (T : Nat → St) (n : GN) (g : GE) : Prop :=
  ∀ s2, (T n.m).le s2 → ∃ s3, DRun P E ops ((g.e, some g.fr) :: g.nw.map fun x => (x, none)) s2 s3 ∧ (T g.m').le s3
theorem gr_exec {effs : List Nat} {nodes : List GN} {T : Nat → St} (hN : ∀ n ∈ nodes, gnB ops (ancsGo ops.toList []) effs nodes n = true) (hE : ∀ n ∈ nodes, ∀ g ∈ n.es, EdgeOk P E ops T n g) (hlt : ∀ k ∈ effs, k < ops.size) {F : St} (hF : ∀ n ∈ nodes, (∀ k ∈ effs, n.m.testBit k = true) → T n.m = F) :
    ∀ (l : List Nat) (done : Nat → Bool) (n : GN) (s s2 : St), TopoSeq ops done l → Closed ops done → n ∈ nodes → (∀ k ∈ effs, n.m.testBit k = done k) → LRun P E ops (n.X.filter fun x => !done x) s s2 → (T n.m).le s2 →
    ∀ (Q : Exit → Act → World → Prop) (a : Act) (w : World), R E s a w → (∀ a' w', R E F a' w' → Q .normal a' w') → wpOps P ops Q l a w := by
  intro l
  induction l with
  | nil =>
    intro done n s s2 ht hc hn hm hrun hle Q a w hR hQ
    have hb := hN n hn
    simp only [gnB, Bool.and_eq_true, List.all_eq_true, decide_eq_true_eq] at hb
    have hnil : (n.X.filter fun x => !done x) = [] := by
      apply List.filter_eq_nil_iff.2
      intro x hx
      have := (hb.2 x hx).2
      simp [ht x this]
    rw [hnil] at hrun
    simp only [LRun] at hrun
    subst hrun
    have := hF n hn (fun k hk => by rw [hm k hk]; exact ht k (hlt k hk))
    rw [this] at hle
    exact hQ a w (hR.le hle)
  | cons i l ih =>
    intro done n s s2 ht hc hn hm hrun hle Q a w hR hQ
    obtain ⟨hi, hdi, hready, ht'⟩ := ht
    have hb := hN n hn
    simp only [gnB, Bool.and_eq_true, List.all_eq_true, decide_eq_true_eq] at hb
    obtain ⟨⟨⟨⟨⟨b1, b2⟩, b3⟩, b4⟩, b5⟩, b6⟩ := hb
    have hanc : ∀ k, anc (ancsGo ops.toList []) i k = true → done k = true := fun k hk => ancs_ok ops i k hk done hc hready
    have hCl' : Closed ops (fun j => j == i || done j) := by
      intro j o e hj ho he hbd
      simp only [Bool.or_eq_true, beq_iff_eq] at hj ⊢
      rcases hj with rfl | hj
      · exact .inr (hready o e ho he hbd)
      · exact .inr (hc j o e hj ho he hbd)
    have hpw := pairsB_pw b4
    by_cases hie : effs.contains i = true
    · -- an effect
      have hmi : i ∈ effs := by simpa using hie
      have hav := b2 i hmi
      simp only [Bool.or_eq_true, List.any_eq_true, Bool.and_eq_true, Bool.not_eq_true', beq_iff_eq] at hav
      have hg : ∃ g ∈ n.es, g.e = i := by
        rcases hav with (h | ⟨k, hk, h1, h2⟩) | h
        · rw [hm i hmi, hdi] at h; cases h
        · rw [hm k hk, hanc k h1] at h2; cases h2
        · exact h
      obtain ⟨g, hgm, rfl⟩ := hg
      have hgb := b1 g hgm
      simp only [geB, Bool.and_eq_true, decide_eq_true_eq, List.any_eq_true, beq_iff_eq] at hgb
      obtain ⟨⟨⟨c1, c2⟩, n', hn', hm', hX'⟩, c4⟩ := hgb
      obtain ⟨s3, hd, hle3⟩ := hE n hn g hgm s2 hle
      cases hd with
      | eff _ _ _ o _ K h d _ ho u hst hs =>
        rw [ho] at c4
        simp only [List.all_eq_true] at c4
        have hpre : ∀ x ∈ n.X.filter fun x => !done x, ∃ ox, ops[x]? = some ox ∧ apartE ops ox o = true ∧ dstNot (readsE ops ox) ox.dst = true ∧ x ∈ g.fr := by
          intro x hx
          obtain ⟨hx1, hx2⟩ := List.mem_filter.1 hx
          have := c4 x hx1
          split at this
          · rename_i ox e1
            simp only [Bool.or_eq_true, Bool.and_eq_true] at this
            rcases this with q | q
            · rw [hanc x q] at hx2; cases hx2
            · exact ⟨ox, e1, q.1.1, q.1.2, by simpa using q.2⟩
          · cases this
        obtain ⟨u0, hl0⟩ := eff_front hrun u (fun x hx => by obtain ⟨ox, _, _, _, q⟩ := hpre x hx; exact hst x q) (fun k hk x hx => by
          obtain ⟨ox, q1, q2, q3, _⟩ := hpre k hk
          rw [hx] at q1; cases q1; exact ⟨q2, q3⟩) ((hpw.sublist List.filter_sublist).imp fun {x y} q ox oy e1 e2 => by
          obtain ⟨ox', oy', f1, f2, _, f4, f5⟩ := q
          rw [e1] at f1; rw [e2] at f2; cases f1; cases f2
          exact ⟨f4, f5⟩)
        have hl1 := lrun_app hl0 (drun_looks hs)
        refine u0 s Agree.rfl' l Q a w hR fun a' w' hR' => ?_
        refine ih (fun j => j == g.e || done j) n' _ s3 ht' hCl' hn' (fun k hk => ?_) ?_ (by rw [hm']; exact hle3) Q a' w' hR' hQ
        · rw [hm', c1, Nat.testBit_or, hm k hk, Nat.one_shiftLeft, Nat.testBit_two_pow]
          by_cases e : g.e = k
          · subst e; simp
          · have e2 : (k == g.e) = false := by rw [beq_eq_false_iff_ne]; exact fun z => e z.symm
            rw [e2]; simp [e]
        · have hnew : ∀ x ∈ g.nw, done x = false ∧ x ≠ g.e := by
            intro x hx
            have hb' := hN n' hn'
            simp only [gnB, Bool.and_eq_true, List.all_eq_true, decide_eq_true_eq] at hb'
            have hx' := hb'.2 x (by rw [hX']; simp [hx])
            have hnd := hb'.1.2
            rw [hX'] at hnd
            have hne : x ≠ g.e := fun z => by rw [z] at hx'; simp [hmi] at hx'
            refine ⟨?_, hne⟩
            cases hdx : done x with
            | false => rfl
            | true =>
              exfalso
              -- what is done stood in X already
              have hs3 := b3 x (List.mem_range.2 hx'.2)
              simp only [Bool.or_eq_true, List.any_eq_true, Bool.and_eq_true, Bool.not_eq_true'] at hs3
              rcases hs3 with (q | ⟨k, hk, q1, q2⟩) | q
              · have := hx'.1; rw [q] at this; cases this
              · have : done k = true := by
                  obtain ⟨ox, hox⟩ : ∃ ox, ops[x]? = some ox := ⟨_, Array.getElem?_eq_getElem hx'.2⟩
                  exact ancs_ok ops x k q1 done hc (fun o' e' g1 g2 g3 => hc x o' e' hdx g1 g2 g3)
                rw [hm k hk, this] at q2; cases q2
              · have hxX : x ∈ n.X := by simpa using q
                exact (List.nodup_append.1 hnd).2.2 x hxX x hx rfl
          rw [hX', List.filter_append]
          have f1 : n.X.filter (fun x => !((fun j => j == g.e || done j) x)) = n.X.filter fun x => !done x := by
            apply List.filter_congr
            intro x hx
            have hx6 := b6 x hx
            have hne : x ≠ g.e := fun z => by rw [z] at hx6; simp [hmi] at hx6
            simp [hne]
          have f2 : g.nw.filter (fun x => !((fun j => j == g.e || done j) x)) = g.nw := by
            apply List.filter_eq_self.2
            intro x hx
            obtain ⟨q1, q2⟩ := hnew x hx
            simp [q1, q2]
          rw [f1, f2]
          exact hl1
    · -- a look
      have hav := b3 i (List.mem_range.2 hi)
      simp only [Bool.or_eq_true, List.any_eq_true, Bool.and_eq_true, Bool.not_eq_true'] at hav
      have hiX : i ∈ n.X := by
        rcases hav with (h | ⟨k, hk, h1, h2⟩) | h
        · exact absurd h hie
        · rw [hm k hk, hanc k h1] at h2; cases h2
        · simpa using h
      have hin : i ∈ n.X.filter fun x => !done x := List.mem_filter.2 ⟨hiX, by rw [hdi]; rfl⟩
      obtain ⟨pre, post, hsplit⟩ := List.append_of_mem hin
      have hpwf := hpw.sublist (List.filter_sublist (p := fun x => !done x))
      have hndf : (n.X.filter fun x => !done x).Nodup := b5.sublist List.filter_sublist
      rw [hsplit] at hrun hpwf hndf
      obtain ⟨sp, hl, o, d, ho, u, hpost⟩ := lrun_split hrun
      obtain ⟨u0, hl0⟩ := lrun_front hl u (fun k hk x hx => by
        have := (List.pairwise_append.1 hpwf).2.2 k hk i (by simp)
        obtain ⟨ox, oy, f1, f2, f3, _⟩ := this
        rw [hx] at f1; rw [ho] at f2; cases f1; cases f2
        rcases f3 with f3 | f3
        · have hk2 : k ∈ n.X.filter fun x => !done x := by rw [hsplit]; simp [hk]
          have := (List.mem_filter.1 hk2).2
          rw [hanc k f3] at this; cases this
        · exact f3)
      refine u0 s Agree.rfl' l Q a w hR fun a' w' hR' => ?_
      have hR2 : R E (s.put o.dst d) a' w' := by rwa [app_look] at hR'
      refine ih (fun j => j == i || done j) n _ s2 ht' hCl' hn (fun k hk => ?_) ?_ hle Q a' w' hR2 hQ
      · have hne : (k == i) = false := by
          rw [beq_eq_false_iff_ne]; rintro rfl; exact hie (by simpa using hk)
        rw [hm k hk, hne, Bool.false_or]
      · have hf : n.X.filter (fun x => !((fun j => j == i || done j) x)) = pre ++ post := by
          have e1 : n.X.filter (fun x => !((fun j => j == i || done j) x)) = (n.X.filter fun x => !done x).filter fun x => x != i := by
            rw [List.filter_filter]
            apply List.filter_congr
            intro x _
            simp only [Bool.not_or, bne]
          rw [e1, hsplit, List.filter_append, List.filter_cons]
          have hne : (i != i) = false := by simp
          rw [hne]
          simp only [Bool.false_eq_true, if_false]
          have hA : pre.filter (fun x => x != i) = pre := List.filter_eq_self.2 fun x hx => by
            have := (List.nodup_append.1 hndf).2.2 x hx i (by simp)
            simpa using this
          have hB : post.filter (fun x => x != i) = post := List.filter_eq_self.2 fun x hx => by
            have := (List.nodup_cons.1 (List.nodup_append.1 hndf).2.1).1
            simp only [bne_iff_ne, ne_eq]
            rintro rfl; exact this hx
          rw [hA, hB]
        rw [hf]
        exact lrun_app hl0 hpost
def aopsE (P : Program) (tt : TypeId → Option TI) (O : Array Oper) (T : Nat → St) (id m : Nat) : List GE → Prop
  | [] => True
  | g :: l => (∀ s2, (T m).le s2 → aopsD P tt O (fun s3 => (T g.m').le s3) id ((g.e, some g.fr) :: g.nw.map fun x => (x, none)) s2) ∧ aopsE P tt O T id m l
def aopsN (P : Program) (tt : TypeId → Option TI) (O : Array Oper) (T : Nat → St) (id : Nat) : List GN → Prop
  | [] => True
  | n :: l => aopsE P tt O T id n.m n.es ∧ aopsN P tt O T id l
theorem aopsE_nil (P : Program) (tt : TypeId → Option TI) (O : Array Oper) (T : Nat → St) (id m : Nat) : aopsE P tt O T id m [] = True := rfl
theorem aopsE_cons (P : Program) (tt : TypeId → Option TI) (O : Array Oper) (T : Nat → St) (id m : Nat) (g : GE) (l : List GE) : aopsE P tt O T id m (g :: l) = ((∀ s2, (T m).le s2 → aopsD P tt O (fun s3 => (T g.m').le s3) id ((g.e, some g.fr) :: g.nw.map fun x => (x, none)) s2) ∧ aopsE P tt O T id m l) := rfl
theorem aopsN_nil (P : Program) (tt : TypeId → Option TI) (O : Array Oper) (T : Nat → St) (id : Nat) : aopsN P tt O T id [] = True := rfl
theorem aopsN_cons (P : Program) (tt : TypeId → Option TI) (O : Array Oper) (T : Nat → St) (id : Nat) (n : GN) (l : List GN) : aopsN P tt O T id (n :: l) = (aopsE P tt O T id n.m n.es ∧ aopsN P tt O T id l) := rfl
theorem aopsE_get {O : Array Oper} {T : Nat → St} {id m : Nat} : ∀ {l : List GE}, aopsE P tt O T id m l → ∀ g ∈ l, ∀ s2, (T m).le s2 → aopsD P tt O (fun s3 => (T g.m').le s3) id ((g.e, some g.fr) :: g.nw.map fun x => (x, none)) s2
  | [], _, g, hg => by cases hg
  | g' :: l, h, g, hg => by
    rcases List.mem_cons.1 hg with rfl | hg
    · exact h.1
    · exact aopsE_get h.2 g hg
theorem aopsN_get {O : Array Oper} {T : Nat → St} {id : Nat} : ∀ {l : List GN}, aopsN P tt O T id l → ∀ n ∈ l, aopsE P tt O T id n.m n.es
  | [], _, g, hg => by cases hg
  | g' :: l, h, g, hg => by
    rcases List.mem_cons.1 hg with rfl | hg
    · exact h.1
    · exact aopsN_get h.2 g hg
def lastB (effs : List Nat) (nodes : List GN) (F : Nat) : Bool := nodes.all fun n => (effs.any fun k => !n.m.testBit k) || n.m == F
theorem awp_drawN {Q : Exit → St → Prop} (ht : TTok P tt) (T : Nat → St) {rid : Nat} (effs : List Nat) (nodes : List GN) (F : Nat) (X0 L Ct Cg : List Nat) (hC : grB ops effs nodes L Ct Cg = true) (hl : lastB effs nodes F = true)
    (hX : (nodes.any fun n => n.m == 0 && n.X == X0) = true) (he : (effs.all fun k => decide (k < ops.size)) = true) (hQ : Q .normal (T F))
    (h0 : ∀ O : Array Oper, OpsAre O ops.toList 0 → aopsD P tt O (fun s => (T 0).le s) (rid * 1000 + 1000) (X0.map fun x => (x, none)) st)
    (h : ∀ O : Array Oper, OpsAre O ops.toList 0 → aopsN P tt O T (rid * 1000 + 1000) nodes) : AWP P E (.region rid ops true) Q st := by
  intro a w hR
  refine wp_region_draw fun t => ?_
  simp only [grB, Bool.and_eq_true, List.all_eq_true] at hC
  obtain ⟨⟨h1, h2⟩, _⟩ := hC
  have hs := schedule_topo2 h1 (P.follows .mixedOrders) t
  obtain ⟨n, hn, hn2⟩ := List.any_eq_true.1 hX
  simp only [Bool.and_eq_true, beq_iff_eq] at hn2
  obtain ⟨s', r1, r2⟩ := aopsD_run (E := E) ht (h0 ops (opsAre_self ops _ 0 (by simp)))
  have hN := h ops (opsAre_self ops _ 0 (by simp))
  refine gr_exec (T := T) (effs := effs) (nodes := nodes) h2 (fun n hn g hg s2 hle => ?_) (fun k hk => by have := List.all_eq_true.1 he k hk; simpa using this) (F := T F) (fun n hn hall => ?_) _ (fun _ => false) n st s' hs (fun j o e hj => by cases hj) hn (fun k hk => by rw [hn2.1]; simp) ?_ (by rw [hn2.1]; exact r2) _ a _ ?_ (fun a' w' hR' => ⟨T F, hQ, hR'⟩)
  · obtain ⟨s3, q1, q2⟩ := aopsD_run (E := E) ht (aopsE_get (aopsN_get hN n hn) g hg s2 hle)
    exact ⟨s3, q1, q2⟩
  · have := List.all_eq_true.1 hl n hn
    simp only [Bool.or_eq_true, List.any_eq_true, Bool.not_eq_true', beq_iff_eq] at this
    rcases this with ⟨k, hk, q⟩ | q
    · rw [hall k hk] at q; cases q
    · rw [q]
  · have e1 : (n.X.filter fun x => !((fun _ => false) x)) = n.X := List.filter_eq_self.2 (fun _ _ => rfl)
    rw [e1, hn2.2]
    exact drun_looks r1
  · obtain ⟨ρ, I, hrb⟩ := hR
    exact ⟨ρ, I, hrb.drew⟩
def ndK {α : Type} : List (Nat × α) → Bool
  | [] => true
  | x :: l => (l.all fun y => !(y.1 == x.1)) && ndK l
theorem lk_nd {α : Type} : ∀ {l : List (Nat × α)}, ndK l = true → ∀ t d, (t, d) ∈ l → lk l t = some d
  | [], _, t, d, h => by cases h
  | (k, e) :: l, hn, t, d, h => by
    simp only [ndK, Bool.and_eq_true, List.all_eq_true] at hn
    rcases List.mem_cons.1 h with q | q
    · cases q; simp [lk]
    · have := hn.1 (t, d) q
      have hne : ¬ t = k := by simpa using this
      simp only [lk]
      rw [if_neg (by first | exact hne | exact fun z => hne z.symm)]
      exact lk_nd hn.2 t d q
theorem knows_of {st : St} : ∀ {l : List (Nat × D)}, (∀ t d, (t, d) ∈ l → st.slots t = some d) → Knows st l
  | [], _ => trivial
  | (t, d) :: l, h => ⟨h t d (by simp), knows_of fun t d hm => h t d (by simp [hm])⟩
theorem knowsH_of' {st : St} : ∀ {l : List (Nat × AObj)}, (∀ t d, (t, d) ∈ l → st.heap t = some d) → KnowsH st l
  | [], _ => trivial
  | (t, d) :: l, h => ⟨h t d (by simp), knowsH_of' fun t d hm => h t d (by simp [hm])⟩
theorem le_knows {n : Nat} {sl : List (Nat × D)} {hp : List (Nat × AObj)} {st : St} (h : (mkS n sl hp).le st) (h1 : ndK sl = true) (h2 : ndK hp = true) : st.n = n ∧ Knows st sl ∧ KnowsH st hp :=
  ⟨h.n.symm, knows_of fun t d hm => h.slots t d (lk_nd h1 t d hm), knowsH_of' fun t d hm => h.heap t d (lk_nd h2 t d hm)⟩
end
end Go.Ab
