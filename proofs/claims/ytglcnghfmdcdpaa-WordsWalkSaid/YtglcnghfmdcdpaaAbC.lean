import Derived.Test.YtglcnghfmdcdpaaAbM
namespace Go.Ab
set_option linter.unusedSimpArgs false
set_option linter.unusedVariables false
section
variable {P : Program} {E : Ent} {st : St} {a : Act} {w : World} {ρ : Locs} {I : Imm} {tt : TypeId → Option TI}
theorem run_hopStore (ht : TTok P tt) (h : RB E st a w ρ I) {T : TypeId} {p : Prop} {st1 : St} {da dx d : D} {u v : Value} (hv : hopStore tt st T da dx = some (p, st1, d)) (hp : p) (hu : Rep I ρ da u) (hx : Rep I ρ dx v) :
    ∃ w', (Instr.storeAt T u v).run P w = .ok () w' ∧ d = .junk ∧ ∃ J, RB E st1 a w' ρ J := by
  unfold hopStore at hv
  split at hv
  · rename_i ti oid i k hti
    obtain ⟨info, i1, i2, i3, i4, i5, i6⟩ := info_of ht hti
    cases ho0 : st.heap oid with
    | none => simp [ho0] at hv
    | some o0 =>
      simp only [ho0] at hv
      split at hv
      · rename_i ids q d1 hpur
        have key : q → ∃ J, (∀ b c, I b = some c → J b = some c) ∧ RB E (st.freeze ids) a w ρ J ∧ Rep J (if o0.flat then noLocs else ρ) d1 v := by
          intro hq
          cases hf : o0.flat with
          | true => simp only [hf, if_true] at hpur ⊢; exact h.pur hpur hq hx
          | false =>
            simp only [hf, Bool.false_eq_true, if_false, Option.some.injEq, Prod.mk.injEq] at hpur ⊢
            obtain ⟨rfl, _, rfl⟩ := hpur
            obtain ⟨J, hJ, h'⟩ := h.freeze []
            exact ⟨J, hJ, h', hx.imm hJ⟩
        cases ho : (st.freeze ids).heap oid with
        | none => simp [ho] at hv
        | some o =>
          simp only [ho, Option.some.injEq, Prod.mk.injEq] at hv
          obtain ⟨rfl, rfl, rfl⟩ := hv
          obtain ⟨g1, g2, g3, g4, g5, g6, g7⟩ := hp
          obtain ⟨J, hJ, h', hd1⟩ := key g1
          have hoo : o.flat = o0.flat := by
            simp only [St.freeze, ho0] at ho
            split at ho
            · simp only [Option.map_some, Option.some.injEq] at ho; rw [← ho]
            · simp only [Option.some.injEq] at ho; rw [← ho]
          obtain ⟨l, hl, hlaid⟩ := h'.mem.laid oid o ho
          obtain ⟨c1, c2⟩ := hd1.cells g5
          cases hu with
          | ptr _ _ _ _ b l' hl' hb =>
            rw [hl] at hl'; cases hl'
            rcases hlaid.mem with ⟨q0, _⟩ | ⟨b', c, el, lo, hi, q1, q2, q3, q4, q5, q6, hone, q7⟩
            · rw [q0] at hb; cases hb
            · have hbb : b' = b := by rw [q1] at hb; exact Option.some.inj hb
              subst hbb
              have hsz := hlaid.sz
              have hrow := getD_rows g3
              have hrl := hlaid.rows _ (List.mem_of_getElem? hrow)
              generalize o.rows.getD i [] = row0 at hrow hrl ⊢
              have hcap := hlaid.cap
              have hb1 : (i + 1) * o.sz ≤ l.cap * o.sz := Nat.mul_le_mul_right _ (by omega)
              rw [Nat.add_mul, Nat.one_mul] at hb1
              have hcl : v.cells.toList.length = ti.sz := by simp; omega
              have hfit : l.off + i * o.sz + k + v.cells.toList.length ≤ c.size := by rw [hcl]; omega
              have hv1 : ∀ x ∈ v.cells.toList, x.oneCell' = true := by
                intro x hx'
                obtain ⟨j, hj⟩ := List.getElem?_of_mem hx'
                have hj' : v.cells[j]? = some x := by simpa using hj
                have hlt : j < d1.cells.length := by have := (Array.getElem?_eq_some_iff.1 hj').1; omega
                exact (c2 j _ x (List.getElem?_eq_getElem hlt) hj').one (g7 _ (List.getElem_mem hlt))
              refine ⟨w.setRow b' (over c (l.off + i * o.sz + k) v.cells.toList), ?_, rfl, J, ?_⟩
              · have hne : v.cells.size = ti.sz := by omega
                simp only [Instr.storeAt, Instr.sureAddr, storeVar, Sem.run_bind, Sem.run_pure, Result.andThen_ok, run_sizeOf ht hti, hne, ne_eq, not_true, if_false]
                rw [hsz]
                exact run_store_over q2 q3.no hfit hv1
              · refine h'.write (rebind_setRow (c := c) (t := el) (fr := (lo, hi)) ho g2 hl q1) hl ⟨o, ho, g2, id⟩ ⟨hsz, hlaid.pos, fun row hr => ?_, by simpa using hcap, .inr ⟨b', over c (l.off + i * o.sz + k) v.cells.toList, el, lo, hi, q1, setRow_heap w b' c _ el (lo, hi) q2, by rw [over_size hfit]; exact q3, by rw [over_size hfit]; exact q4, by simp [g2], fun _ => q6 g2, over_one hfit hone hv1, ?_⟩⟩
                · rcases List.mem_or_eq_of_mem_set hr with hr | hr
                  · exact hlaid.rows row hr
                  · rw [hr]; simp; omega
                · intro i' j row d x r1 r2 r3
                  have r1' : (o.rows.set i (row0.take k ++ (d1.cells ++ row0.drop (k + ti.sz))))[i']? = some row := r1
                  have r3' : (over c (l.off + i * o.sz + k) v.cells.toList)[l.off + i' * o.sz + j]? = some x := r3
                  rw [over_get hfit, hcl] at r3'
                  rw [List.getElem?_set] at r1'
                  by_cases hii : i = i'
                  · subst hii
                    simp only [g3, if_true, Option.some.injEq] at r1'
                    subst r1'
                    by_cases hk1 : j < k
                    · rw [if_neg (by omega)] at r3'
                      rw [List.getElem?_append_left (by simp; omega), List.getElem?_take, if_pos hk1] at r2
                      exact q7 i j _ d x hrow r2 r3'
                    · rw [List.getElem?_append_right (by simp; omega)] at r2
                      have e1 : (row0.take k).length = k := by simp; omega
                      rw [e1] at r2
                      by_cases hk2 : j < k + ti.sz
                      · rw [if_pos (by omega)] at r3'
                        rw [List.getElem?_append_left (by omega)] at r2
                        have e2 : l.off + i * o.sz + j - (l.off + i * o.sz + k) = j - k := by omega
                        rw [e2] at r3'
                        have := c2 (j - k) d x r2 (by simpa using r3')
                        show Rep J (if o.flat then noLocs else ρ) d x
                        rw [hoo]; exact this
                      · rw [if_neg (by omega)] at r3'
                        rw [List.getElem?_append_right (by omega), List.getElem?_drop] at r2
                        have e2 : k + ti.sz + (j - k - d1.cells.length) = j := by omega
                        rw [e2] at r2
                        exact q7 i j _ d x hrow r2 r3'
                  · simp only [hii, if_false] at r1'
                    have hj := (List.getElem?_eq_some_iff.1 r2).1
                    rw [hlaid.rows row (List.mem_of_getElem? r1')] at hj
                    have hno : ¬ (l.off + i * o.sz + k ≤ l.off + i' * o.sz + j ∧ l.off + i' * o.sz + j < l.off + i * o.sz + k + ti.sz) := by
                      rintro ⟨a1, a2⟩
                      rcases Nat.lt_or_ge i i' with hlt | hge
                      · have : (i + 1) * o.sz ≤ i' * o.sz := Nat.mul_le_mul_right _ hlt
                        rw [Nat.add_mul, Nat.one_mul] at this; omega
                      · have : (i' + 1) * o.sz ≤ i * o.sz := Nat.mul_le_mul_right _ (by omega)
                        rw [Nat.add_mul, Nat.one_mul] at this; omega
                    rw [if_neg hno] at r3'
                    exact q7 i' j row d x r1' r2 r3'
      · cases hv
  · cases hv
theorem run_hopCopy (ht : TTok P tt) (h : RB E st a w ρ I) {T X ty : TypeId} {p : Prop} {st1 : St} {ds dx d : D} {u v : Value} (hv : hopCopy tt st T X ds dx = some (p, st1, d)) (hp : p) (hu : Rep I ρ ds u) (hx : Rep I ρ dx v) :
    ∃ z w', (Builtin.copy_ #[T, X] ty #[u, v]).run P w = .ok z w' ∧ Did E st1 a d z w' := by
  unfold hopCopy at hv
  split at hv
  · rename_i e he
    have hund := slice_und ht he
    split at hv
    · rename_i ei hei hXi
      obtain ⟨info, i1, i2, i3, i4, i5, i6⟩ := info_of ht hei
      split at hv
      · rename_i p2 rows2 hsrc
        split at hv
        · rename_i oid off len
          cases ho : st.heap oid with
          | none => simp [ho] at hv
          | some o =>
            simp only [ho, Option.some.injEq, Prod.mk.injEq] at hv
            obtain ⟨rfl, rfl, rfl⟩ := hv
            obtain ⟨g1, g2, g3, g4, g5, g6⟩ := hp
            obtain ⟨cs, s1, s2, s3, s4⟩ := h.source ht hei i1 hsrc g1 g2 g3 hx
            obtain ⟨l, hl, hlaid⟩ := h.mem.laid oid o ho
            obtain ⟨dX, hX, hA | ⟨⟨kk, hk⟩, _⟩⟩ := s1.und
            · obtain ⟨_, hlenof, hfc⟩ := hA
              generalize hn : min rows2.length len = n
              have hn1 : n ≤ rows2.length := by omega
              have hn2 : n ≤ len := by omega
              have hfc' := hfc w n rfl hn1
              have hle : n * ei.sz ≤ rows2.length * ei.sz := Nat.mul_le_mul_right _ hn1
              rw [i2] at hfc'
              have hcl : (cs.take (n * ei.sz)).length = n * ei.sz := by simp; omega
              cases hu with
              | own _ _ _ _ l' ad hl' hcap ha =>
                rw [hl] at hl'; cases hl'
                have hmin : Nat.min rows2.length len = n := hn
                by_cases hn0 : n = 0
                · subst hn0
                  simp only [Nat.zero_mul, List.take_zero] at hfc'
                  refine ⟨goInt 0, w, ?_, ρ, I, ?_, by simp [goInt]; exact .v _ _⟩
                  · cases ad <;> simp [Builtin.copy_, run_underlying hund, hlenof, run_sizeOf ht hei, hmin, hfc', storeCells]
                  · have e0 : o.rows.take off ++ (rows2.take 0 ++ o.rows.drop (off + 0)) = o.rows := by simp
                    rw [e0]
                    have : upd st.heap oid { o with rows := o.rows } = st.heap := by
                      funext k; simp only [upd]; split
                      · rename_i e; rw [e, ho]
                      · rfl
                    rw [this]; exact h
                · rcases ha with ha | ⟨b, hb, rfl⟩
                  · omega
                  · rcases hlaid.mem with ⟨q0, _⟩ | ⟨b', c, el, lo, hi, q1, q2, q3, q4, q5, q6, hone, q7⟩
                    · rw [q0] at hb; cases hb
                    · have hbb : b' = b := by rw [q1] at hb; exact Option.some.inj hb
                      subst hbb
                      have hsz := hlaid.sz
                      have hb1 : (off + n) * o.sz ≤ l.cap * o.sz := Nat.mul_le_mul_right _ (by omega)
                      rw [Nat.add_mul] at hb1
                      have hfit : l.off + off * o.sz + (cs.take (n * ei.sz)).length ≤ c.size := by rw [hcl, ← g5]; omega
                      have hv1 : ∀ x ∈ cs.take (n * ei.sz), x.oneCell' = true := fun x hx' => s3 x (List.mem_of_mem_take hx')
                      have hst := run_store_over (P := P) q2 q3.no hfit hv1
                      refine ⟨goInt n, w.setRow b' (over c (l.off + off * o.sz) (cs.take (n * ei.sz))), ?_, ρ, I, ?_, by simp [goInt]; exact .v _ _⟩
                      · simp [Builtin.copy_, run_underlying hund, hlenof, run_sizeOf ht hei, hmin, hfc', hsz, hst]
                      · refine h.write (rebind_setRow (c := c) (t := el) (fr := (lo, hi)) ho g4 hl q1) hl ⟨o, ho, g4, id⟩ ⟨hsz, hlaid.pos, fun row hr => ?_, by have := hlaid.cap; simp; omega, .inr ⟨b', over c (l.off + off * o.sz) (cs.take (n * ei.sz)), el, lo, hi, q1, setRow_heap w b' c _ el (lo, hi) q2, by rw [over_size hfit]; exact q3, by rw [over_size hfit]; exact q4, by simp [g4], fun _ => q6 g4, over_one hfit hone hv1, ?_⟩⟩
                        · rcases List.mem_append.1 hr with q | q
                          · exact hlaid.rows row (List.mem_of_mem_take q)
                          · rcases List.mem_append.1 q with q | q
                            · rw [g2 row (List.mem_of_mem_take q), g5]
                            · exact hlaid.rows row (List.mem_of_mem_drop q)
                        · intro i j row d x r1 r2 r3
                          have r1' : (o.rows.take off ++ (rows2.take n ++ o.rows.drop (off + n)))[i]? = some row := r1
                          have r3' : (over c (l.off + off * o.sz) (cs.take (n * ei.sz)))[l.off + i * o.sz + j]? = some x := r3
                          rw [over_get hfit, hcl] at r3'
                          have hj := (List.getElem?_eq_some_iff.1 r2).1
                          by_cases hi1 : i < off
                          · rw [List.getElem?_append_left (by simp; omega), List.getElem?_take, if_pos hi1] at r1'
                            rw [hlaid.rows row (List.mem_of_getElem? r1')] at hj
                            have hlt := mul_lt_of hi1 hj
                            rw [if_neg (by omega)] at r3'
                            exact q7 i j row d x r1' r2 r3'
                          · rw [List.getElem?_append_right (by simp; omega)] at r1'
                            have e1 : (o.rows.take off).length = off := by simp; omega
                            rw [e1] at r1'
                            have e3 : i * o.sz = off * o.sz + (i - off) * o.sz := by rw [← Nat.add_mul]; congr 1; omega
                            by_cases hi2 : i < off + n
                            · rw [List.getElem?_append_left (by simp; omega), List.getElem?_take, if_pos (by omega)] at r1'
                              rw [g2 row (List.mem_of_getElem? r1'), ← g5] at hj
                              have hlt := mul_lt_of (n := n) (i := i - off) (by omega) hj
                              rw [← g5] at r3' s4
                              rw [if_pos (by omega)] at r3'
                              have e2 : l.off + i * o.sz + j - (l.off + off * o.sz) = (i - off) * o.sz + j := by omega
                              rw [e2, List.getElem?_take, if_pos (by omega)] at r3'
                              have := s4 (i - off) j row d x r1' r2 (by simpa using r3')
                              show Rep I (if o.flat then noLocs else ρ) d x
                              cases o.flat with
                              | true => exact this
                              | false => exact noLocs_kill this
                            · rw [List.getElem?_append_right (by simp; omega), List.getElem?_drop] at r1'
                              have e4 : (rows2.take n).length = n := by simp; omega
                              rw [e4] at r1'
                              have e5 : off + n + (i - off - n) = i := by omega
                              rw [e5] at r1'
                              have hge : n * ei.sz ≤ (i - off) * ei.sz := Nat.mul_le_mul_right _ (by omega)
                              rw [← g5] at hge r3'
                              rw [if_neg (by omega)] at r3'
                              exact q7 i j row d x r1' r2 r3'
            · exfalso
              cases hXt : tt X with
              | none => simp [hXt] at hXi
              | some xi =>
                have := und_of ht hXt
                rw [hX] at this
                simp only [Option.some.injEq] at this
                subst hk
                simp [hXt, ← this, isIntT] at hXi
        · cases hv
      · cases hv
    · cases hv
  · cases hv
theorem shape_alloc (w : World) (c : Array Value) (e : TypeId) : (w.alloc (.cells c e)).shape? w.heap.size = some (e, c.size) := by
  unfold World.shape? World.alloc; simp
theorem shape_drew_alloc (w : World) (c : Array Value) (e : TypeId) : (w.drew.alloc (.cells c e)).shape? w.heap.size = some (e, c.size) := shape_alloc w.drew c e
theorem run_hopBytes (ht : TTok P tt) (h : RB E st a w ρ I) {id : Nat} {src dst : TypeId} {p : Prop} {st1 : St} {dx d : D} {u : Value} (hv : hopBytes tt id st src dst dx = some (p, st1, d)) (hp : p) (hu : Rep I ρ dx u) :
    ∃ z w', (convert src dst u).run P w = .ok z w' ∧ Did E st1 a d z w' := by
  unfold hopBytes at hv
  split at hv
  · rename_i s
    cases rep_v_inv hu
    split at hv
    · rename_i e hs hd
      have hud := slice_und ht hd
      have hus : P.underlying src = some .string := by
        cases hS : tt src with
        | none => simp [hS] at hs
        | some si =>
          simp only [hS, Option.map_some, Option.some.injEq] at hs
          have := und_of ht hS
          rwa [hs] at this
      split at hv
      · rename_i ei hei
        split at hv
        · rename_i hk
          simp only [Option.some.injEq, Prod.mk.injEq] at hv
          obtain ⟨rfl, rfl, rfl⟩ := hv
          have hue := und_of ht hei
          rw [hk] at hue
          have hge := grownCap_ge w s.size 0 e
          generalize hcap : grownCap w s.size 0 e = cap at hge
          let c : Array Value := (s.data.map fun b => Value.int .u8 b.toNat) ++ Array.replicate (cap - s.size) (.int .u8 0)
          have hcs : c.size = cap := by simp [c]; omega
          have hrun : (convert src dst (.string s)).run P w = .ok (.slice (some ⟨w.heap.size, 0, none⟩) s.size cap) ((w.drew.alloc (.cells c e)).freeze ⟨w.heap.size, c.size, none⟩ 1) := by
            simp only [convert, Sem.run_bind, run_underlying hus, run_underlying hud, Result.andThen_ok, run_underlying hue, Conv.stringToBytes, run_choose, Question.forced, newRow, run_newObj, markStringish, run_shape]
            simp only [grownCap] at hcap
            simp [hcap, shape_drew_alloc, c]
          refine ⟨_, _, hrun, _, I, h.drew.new id (c := c) (e := e) (lo := c.size) (hi := c.size + 1) (cap := cap) ?_ rfl rfl rfl (.inr (Nat.le_refl _)) rfl Nat.one_pos (fun row hr => ?_) (by simp [byteRows]; exact hge) (by rw [hcs]; simp) (fun j x hx => ?_) (fun i j row d x q1 q2 q3 => ?_), rep_new rfl rfl (by simpa using hge)⟩
          · simp only [World.freeze, World.alloc]
            simp
            apply Array.ext
            · simp
            · intro k h1 h2
              simp only [Array.getElem_modify, Array.getElem_push]
              split
              · rename_i hk'
                subst hk'
                simp
              · split
                · rfl
                · rename_i h3 h4
                  simp at h1
                  exfalso
                  have : (w.drew.heap.size) = w.heap.size := rfl
                  omega
          · simp only [byteRows, List.mem_map] at hr
            obtain ⟨b, _, rfl⟩ := hr
            rfl
          · simp only [c, Array.getElem?_append] at hx
            split at hx
            · simp only [Array.getElem?_map] at hx
              cases hb : s.data[j]? with
              | none => simp [hb] at hx
              | some b => simp [hb] at hx; subst hx; rfl
            · simp only [Array.getElem?_replicate] at hx
              split at hx
              · simp at hx; subst hx; rfl
              · cases hx
          · simp only [byteRows, List.getElem?_map] at q1
            cases hb : s.data.toList[i]? with
            | none => simp [hb] at q1
            | some b =>
              simp only [hb, Option.map_some, Option.some.injEq] at q1
              subst q1
              cases j with
              | succ j => simp at q2
              | zero =>
                simp only [List.getElem?_cons_zero, Option.some.injEq] at q2
                subst q2
                have hi : i < s.data.size := by have := (List.getElem?_eq_some_iff.1 hb).1; simpa using this
                simp only [c, Nat.mul_one, Nat.add_zero] at q3
                rw [Array.getElem?_append_left (by simpa using hi)] at q3
                have hb' : s.data[i]? = some b := by simpa using hb
                simp only [Array.getElem?_map, hb', Option.map_some, Option.some.injEq] at q3
                subst q3
                exact .v _ _
        · cases hv
      · cases hv
    · cases hv
  · cases hv
theorem Unfr.mark {n lo hi : Nat} (h : Unfr n lo hi) (hle : lo ≤ hi ∨ True) : Unfr n (if lo == hi then (n, n + 1) else (min lo n, max hi (n + 1))).1 (if lo == hi then (n, n + 1) else (min lo n, max hi (n + 1))).2 := by
  by_cases e : lo = hi
  · simp [e, Unfr]
  · rcases h with h | h
    · exact absurd h e
    · simp only [beq_iff_eq, e, if_false]
      right; omega
theorem run_hopConv (ht : TTok P tt) (h : RB E st a w ρ I) {id : Nat} {src dst : TypeId} {p : Prop} {st1 : St} {dx d : D} {u : Value} (hv : hopConv tt id st src dst dx = some (p, st1, d)) (hp : p) (hu : Rep I ρ dx u) :
    ∃ z w', (convert src dst u).run P w = .ok z w' ∧ Did E st1 a d z w' := by
  unfold hopConv at hv
  split at hv
  · rename_i oid off len
    split at hv
    · rename_i e o hs ho
      have hus := slice_und ht hs
      split at hv
      · rename_i ei hei
        split at hv
        · rename_i hk
          simp only [Option.some.injEq, Prod.mk.injEq] at hv
          obtain ⟨rfl, rfl, rfl⟩ := hv
          obtain ⟨rfl, hwr, hlen⟩ := hp
          have hue := und_of ht hei
          rw [hk] at hue
          have hu0 := hu
          cases hu with
          | own _ _ _ _ l ad hl hcap ha =>
            obtain ⟨l', el, hlaid⟩ := h.mem.laid oid o ho
            rw [hl] at el; cases el
            rcases ha with ha | ⟨b, hb, rfl⟩
            · omega
            · rcases hlaid.mem with ⟨g0, _⟩ | ⟨b', c, et, lo, hi, q1, q2, q3, q4, q5, q6, hone, q7⟩
              · rw [g0] at hb; cases hb
              · have hbb : b' = b := by rw [q1] at hb; exact Option.some.inj hb
                subst hbb
                have hsh : w.shape? b' = some (et, c.size) := by simp [World.shape?, q2]
                have hrun : (convert src src (.slice (some ⟨b', l.off + off * l.sz, none⟩) len (l.cap - off))).run P w = .ok (.slice (some ⟨b', l.off + off * l.sz, none⟩) len (l.cap - off)) (w.freeze ⟨b', c.size, none⟩ 1) := by
                  simp only [convert, Sem.run_bind, run_underlying hus, Result.andThen_ok, beq_self_eq_true, run_underlying hue, markStringish, run_shape, hsh]
                  rfl
                have hb' : w.heap[b']? = some (.cells c et (lo, hi)) := q2
                have hheap : (w.freeze ⟨b', c.size, none⟩ 1).heap[b']? = some (.cells c et (if lo == hi then (c.size, c.size + 1) else (min lo c.size, max hi (c.size + 1)))) := by
                  simp only [World.freeze]
                  rw [if_neg (by decide), Array.getElem?_modify, if_pos rfl, hb']
                  rfl
                have hother : ∀ k, k ≠ b' → (w.freeze ⟨b', c.size, none⟩ 1).heap[k]? = w.heap[k]? := fun k hk => by
                  simp [World.freeze, Array.getElem?_modify, Ne.symm hk]
                have hu' := Unfr.mark q3 (.inr trivial)
                refine ⟨_, _, hrun, ρ, I, ?_, hu0⟩
                have hr : Rebind st w (w.freeze ⟨b', c.size, none⟩ 1) ρ oid b' := ⟨rfl, rfl, rfl, by simp [World.freeze], fun k hk _ => hother k hk, .inr ⟨o, l, ho, hwr, hl, q1⟩⟩
                have hwrite := h.write hr hl ⟨o, ho, hwr, fun q => q⟩ (o := o) ⟨hlaid.sz, hlaid.pos, hlaid.rows, hlaid.cap, .inr ⟨b', c, et, _, _, q1, hheap, hu', q4, q5, q6, hone, q7⟩⟩
                have he : upd st.heap oid o = st.heap := by
                  funext k
                  simp only [upd]
                  split
                  · rename_i e; rw [e, ho]
                  · rfl
                rw [he] at hwrite
                exact hwrite
        · cases hv
      · cases hv
    · cases hv
  · exact run_hopBytes ht h hv hp hu
end
end Go.Ab
namespace Go.Ab
set_option linter.unusedSimpArgs false
set_option linter.unusedVariables false
section
variable {P : Program} {E : Ent} {st : St} {a : Act} {w : World} {ρ : Locs} {I : Imm} {tt : TypeId → Option TI}
def exec1 (tt : TypeId → Option TI) (id : Nat) (st : St) (o : Op) : Option (Prop × St × D) :=
  match val tt st o with
  | some (p, d) => some (p, st, d)
  | none => match hop tt id st o with
    | some r => some r
    | none => mop tt st o
theorem run_equalIn_sl (d : Nat) {T e : TypeId} (h : P.underlying T = some (.slice e)) (b : Option Addr) (n c : Nat) : (Op.equalIn (d + 1) T (.slice b n c) (.slice none 0 0)).run P w = .ok b.isNone w := by
  cases b <;> simp [Op.equalIn, run_underlying h]
theorem run_eql_sl {T e : TypeId} (h : P.underlying T = some (.slice e)) (b : Option Addr) (n c : Nat) : (binOp .eql T (.slice b n c) (.slice none 0 0)).run P w = .ok (.bool b.isNone) w := by
  simp only [binOp]
  simp [Op.equal, Op.maxDepth, run_equalIn_sl 9999 h]
theorem run_neq_sl {T e : TypeId} (h : P.underlying T = some (.slice e)) (b : Option Addr) (n c : Nat) : (binOp .neq T (.slice b n c) (.slice none 0 0)).run P w = .ok (.bool !b.isNone) w := by
  simp only [binOp]
  simp [Op.equal, Op.maxDepth, run_equalIn_sl 9999 h]
theorem run_hopNil (ht : TTok P tt) (h : RB E st a w ρ I) {op : BinOp} {T yt : TypeId} {x y : Operand} {p : Prop} {st1 : St} {d : D} (hv : hopNil tt st op T (st.ev x) y = some (p, st1, d)) :
    ∃ v, (do eqGuard op T x y (a.eval x) (a.eval y); binOp op T (a.eval x) (a.eval y) : Sem Value).run P w = .ok v w ∧ Did E st1 a d v w := by
  unfold hopNil at hv
  split at hv
  · rename_i hx
    have hu := rep_v_inv (h.ev hx)
    have hy : a.eval (.const (.slice none 0 0)) = .slice none 0 0 := rfl
    split at hv
    · rename_i e he
      have hund := slice_und ht he
      split at hv <;> simp only [Option.some.injEq, Prod.mk.injEq, reduceCtorEq] at hv
      · obtain ⟨-, rfl, rfl⟩ := hv
        refine ⟨.bool true, ?_, ρ, I, h, .v _ _⟩
        rw [hu, hy, Sem.run_bind, run_eqGuard_plain (by simp) (by simp), Result.andThen_ok, run_eql_sl hund]
        rfl
      · obtain ⟨-, rfl, rfl⟩ := hv
        refine ⟨.bool false, ?_, ρ, I, h, .v _ _⟩
        rw [hu, hy, Sem.run_bind, run_eqGuard_plain (by simp) (by simp), Result.andThen_ok, run_neq_sl hund]
        rfl
    · cases hv
  · cases hv
theorem RB.hopX (ht : TTok P tt) (h : RB E st a w ρ I) {id : Nat} {o : Oper} {p : Prop} {st1 : St} {d : D} (hv : Go.Ab.hop tt id st o.op = some (p, st1, d)) (hp : p) :
    ∃ nx v w', (execOp a.eval o).run P w = .ok nx w' ∧ (nx = .value v ∨ (nx = .skip ∧ v = undef)) ∧ Did E st1 a d v w' := by
    unfold execOp
    cases ho : o.op <;> simp only [ho, hop] at hv ⊢ <;> try (cases hv; done)
    case binOp op T x y yt =>
      obtain ⟨v, r1, r2⟩ := run_hopNil (yt := yt) ht h hv
      refine ⟨_, v, w, ?_, .inl rfl, r2⟩
      rw [Sem.run_bind, r1]
      rfl
    case alloc T =>
      obtain ⟨v, w', r1, r2⟩ := run_hopAlloc ht h hv hp
      exact ⟨_, v, w', by simp [r1], .inl rfl, r2⟩
    case box T x =>
      split at hv
      · rename_i dx hx
        obtain ⟨v, w', r1, r2⟩ := run_hopBox ht h hv hp (h.ev hx)
        exact ⟨_, v, w', by simp [r1], .inl rfl, r2⟩
      · cases hv
    case buildSlice T len parts =>
      split at hv
      · rename_i ds hds
        obtain ⟨v, w', r1, r2⟩ := run_hopBuildSlice ht h hv hp (h.evL hds)
        exact ⟨_, v, w', by simp [r1], .inl rfl, r2⟩
      · cases hv
    case makeSlice T l c =>
      split at hv
      · rename_i dl dc hl hc
        obtain ⟨v, w', r1, r2⟩ := run_hopMakeSlice ht h hv hp (h.ev hl) (h.ev hc)
        exact ⟨_, v, w', by simp [r1], .inl rfl, r2⟩
      · cases hv
    case store T ad x =>
      split at hv
      · rename_i da dx hda hdx
        obtain ⟨w', r1, r2, J, r3⟩ := run_hopStore ht h hv hp (h.ev hda) (h.ev hdx)
        subst r2
        exact ⟨_, undef, w', by simp [r1], .inr ⟨rfl, rfl⟩, ρ, J, r3, .junk _ _⟩
      · cases hv
    case convert src dst x =>
      split at hv
      · rename_i dx hx
        obtain ⟨v, w', r1, r2⟩ := run_hopConv ht h hv hp (h.ev hx)
        exact ⟨_, v, w', by simp [r1], .inl rfl, r2⟩
      · cases hv
    case call c =>
      obtain ⟨callee, args, argTypes⟩ := c
      simp only at hv ⊢
      split at hv
      · rename_i s x T X ha hT
        have ha' : args = #[s, x] := by apply Array.ext'; exact ha
        have hT' : argTypes = #[T, X] := by apply Array.ext'; exact hT
        subst ha' hT'
        split at hv
        · rename_i ds dx hs hx
          obtain ⟨v, w', r1, r2⟩ := run_hopAppend (ty := o.type) ht h hv hp (h.ev hs) (h.ev hx)
          exact ⟨_, v, w', by simp [resolve, invoke, builtin, r1], .inl rfl, r2⟩
        · cases hv
      · rename_i s x T X ha hT
        have ha' : args = #[s, x] := by apply Array.ext'; exact ha
        have hT' : argTypes = #[T, X] := by apply Array.ext'; exact hT
        subst ha' hT'
        split at hv
        · rename_i ds dx hs hx
          obtain ⟨v, w', r1, r2⟩ := run_hopCopy (ty := o.type) ht h hv hp (h.ev hs) (h.ev hx)
          exact ⟨_, v, w', by simp [resolve, invoke, builtin, r1], .inl rfl, r2⟩
        · cases hv
      · cases hv
theorem RB.mopX (ht : TTok P tt) (h : RB E st a w ρ I) {o : Oper} {p : Prop} {st1 : St} {d : D} (hv : Go.Ab.mop tt st o.op = some (p, st1, d)) :
    ∃ nx v w', (execOp a.eval o).run P w = .ok nx w' ∧ (nx = .value v ∨ (nx = .skip ∧ v = undef)) ∧ Did E st1 a d v w' := by
  unfold execOp
  cases ho : o.op <;> simp only [ho, mop] at hv ⊢ <;> try (cases hv; done)
  case insert T m k x =>
    obtain ⟨w', r1, r2, r3⟩ := run_mopSet ht h hv
    subst r3
    exact ⟨_, undef, w', by simp [r1], .inr ⟨rfl, rfl⟩, ρ, I, r2, .junk _ _⟩
  case mapUpdate T m k x =>
    obtain ⟨w', r1, r2, r3⟩ := run_mopSet ht h hv
    subst r3
    exact ⟨_, undef, w', by simp [r1], .inr ⟨rfl, rfl⟩, ρ, I, r2, .junk _ _⟩
  case lookup T m k ok =>
    obtain ⟨v, r1, r2, r3⟩ := run_mopGet ht h hv
    subst r2
    exact ⟨_, v, w, by simp [r1], .inl rfl, ρ, I, h, r3⟩
  case call c =>
    obtain ⟨callee, args, argTypes⟩ := c
    simp only at hv ⊢
    split at hv
    · rename_i m T ha hT
      have ha' : args = #[m] := by apply Array.ext'; exact ha
      have hT' : argTypes = #[T] := by apply Array.ext'; exact hT
      subst ha' hT'
      unfold mopLen at hv
      split at hv
      · rename_i mt mp b hmT hmp hem
        split at hv
        · rename_i hb
          simp only [Option.some.injEq, Prod.mk.injEq] at hv
          obtain ⟨-, rfl, rfl⟩ := hv
          subst hb
          obtain ⟨kt, et, hund, L, hz⟩ := mapT_of ht hmT
          have e1 := rep_v_inv (h.ev hem)
          obtain ⟨arr, clock, g1, g2⟩ := (h.mp _ hmp).here
          have hl : mp.es.length = arr.size := by rw [← g2]; simp
          refine ⟨_, .int .i64 mp.es.length, w, ?_, .inl rfl, ρ, I, h, .v _ _⟩
          simp [resolve, invoke, builtin, Builtin.len_, run_underlying hund, e1, MapKept.run_getObj_map g1, Result.andThen, hl, goInt]
        · cases hv
      · cases hv
    · cases hv
def exec0 (tt : TypeId → Option TI) (id : Nat) (st : St) (o : Op) : Option (Prop × St × D) :=
  match val tt st o with
  | some (p, d) => some (p, st, d)
  | none => hop tt id st o
theorem RB.exec0 (ht : TTok P tt) (h : RB E st a w ρ I) {id : Nat} {o : Oper} {p : Prop} {st1 : St} {d : D} (hv : Go.Ab.exec0 tt id st o.op = some (p, st1, d)) (hp : p) :
    ∃ nx v w', (execOp a.eval o).run P w = .ok nx w' ∧ (nx = .value v ∨ (nx = .skip ∧ v = undef)) ∧ Did E st1 a d v w' := by
  unfold Go.Ab.exec0 at hv
  split at hv
  · rename_i q d' he
    simp only [Option.some.injEq, Prod.mk.injEq] at hv
    obtain ⟨rfl, rfl, rfl⟩ := hv
    obtain ⟨z, z1, z2⟩ := h.val ht he hp
    exact ⟨_, z, w, z1, .inl rfl, ρ, I, h, z2⟩
  · exact h.hopX ht hv hp
theorem RB.exec1 (ht : TTok P tt) (h : RB E st a w ρ I) {id : Nat} {o : Oper} {p : Prop} {st1 : St} {d : D} (hv : Go.Ab.exec1 tt id st o.op = some (p, st1, d)) (hp : p) :
    ∃ nx v w', (execOp a.eval o).run P w = .ok nx w' ∧ (nx = .value v ∨ (nx = .skip ∧ v = undef)) ∧ Did E st1 a d v w' := by
  unfold Go.Ab.exec1 at hv
  split at hv
  · rename_i q d' he
    simp only [Option.some.injEq, Prod.mk.injEq] at hv
    obtain ⟨rfl, rfl, rfl⟩ := hv
    obtain ⟨z, z1, z2⟩ := h.val ht he hp
    exact ⟨_, z, w, z1, .inl rfl, ρ, I, h, z2⟩
  · clear ‹Go.Ab.val tt st o.op = none›
    split at hv
    · rename_i r0 hr0
      cases hv
      exact h.hopX ht hr0 hp
    · exact h.mopX ht hv
end
mutual
def D.ren (σ : Nat → Nat) : D → D
  | .own id off len => .own (σ id) off len
  | .ptr id i j => .ptr (σ id) i j
  | .agg cs => .agg (D.renL σ cs)
  | .tup cs => .tup (D.renL σ cs)
  | .fn f nf cs => .fn f nf (D.renL σ cs)
  | d => d
def D.renL (σ : Nat → Nat) : List D → List D
  | [] => []
  | d :: ds => D.ren σ d :: D.renL σ ds
end
theorem D.renL_length (σ : Nat → Nat) : ∀ cs : List D, (D.renL σ cs).length = cs.length
  | [] => rfl
  | c :: cs => by simp [D.renL, D.renL_length σ cs]
theorem D.renL_get (σ : Nat → Nat) : ∀ (cs : List D) (i : Nat), (D.renL σ cs)[i]? = cs[i]?.map (D.ren σ)
  | [], i => by simp [D.renL]
  | c :: cs, 0 => by simp [D.renL]
  | c :: cs, i + 1 => by simp [D.renL, D.renL_get σ cs i]
def AObj.ren (σ : Nat → Nat) (o : AObj) : AObj := if o.flat then o else { o with rows := o.rows.map (D.renL σ) }
theorem AObj.ren_wr {σ : Nat → Nat} {o : AObj} : (o.ren σ).wr = o.wr := by unfold AObj.ren; split <;> rfl
theorem AObj.ren_pin {σ : Nat → Nat} {o : AObj} : (o.ren σ).pin = o.pin := by unfold AObj.ren; split <;> rfl
theorem Rep.ren {I : Imm} {ρ ρ' : Locs} {σ : Nat → Nat} (hσ : ∀ j l, ρ j = some l → ρ' (σ j) = some l) {d : D} {x : Value} (h : Rep I ρ d x) : Rep I ρ' (d.ren σ) x := by
  induction h with
  | v ρ x => exact .v _ x
  | agg ρ cs vs hl _ ih =>
    refine .agg _ _ vs (by rw [D.renL_length]; exact hl) fun i d x h1 h2 => ?_
    rw [D.renL_get] at h1
    cases h3 : cs[i]? with
    | none => simp [h3] at h1
    | some d' => simp [h3] at h1; exact h1 ▸ ih i d' x h3 h2 hσ
  | tup ρ cs vs hl _ ih =>
    refine .tup _ _ vs (by rw [D.renL_length]; exact hl) fun i d x h1 h2 => ?_
    rw [D.renL_get] at h1
    cases h3 : cs[i]? with
    | none => simp [h3] at h1
    | some d' => simp [h3] at h1; exact h1 ▸ ih i d' x h3 h2 hσ
  | nil ρ f a cap hf => exact .nil _ f a cap hf
  | sl ρ f rows b o cap sz c hI hsz hc hcap hf h1 h _ => exact .sl _ f rows b o cap sz c hI hsz hc hcap hf h1 h
  | ref ρ row k b o c hI hc h1 h _ => exact .ref _ row k b o c hI hc h1 h
  | own ρ id off len l a hl hcap ha => exact .own _ _ off len l a (hσ _ _ hl) hcap ha
  | ptr ρ id i k b l hl hb => exact .ptr _ _ i k b l (hσ _ _ hl) hb
  | fn ρ f nf cs fs vs hn hl _ ih =>
    refine .fn _ f _ _ fs vs hn (by rw [D.renL_length]; exact hl) fun i d x h1 h2 => ?_
    rw [D.renL_get] at h1
    cases h3 : cs[i]? with
    | none => simp [h3] at h1
    | some d' => simp [h3] at h1; exact h1 ▸ ih i d' x h3 h2 hσ
  | junk ρ x => exact .junk _ x
mutual
theorem Rep.unren {I : Imm} {ρ : Locs} {σ : Nat → Nat} : ∀ (d : D) {x : Value}, Rep I ρ (d.ren σ) x → Rep I (fun j => ρ (σ j)) d x
  | .v y, x, h => by cases h; exact .v _ _
  | .agg cs, x, h => by
    cases h with
    | agg _ _ vs hl hh =>
      rw [D.renL_length] at hl
      exact .agg _ _ vs hl fun i d y h1 h2 => Rep.unrenL cs hh i d y h1 h2
  | .tup cs, x, h => by
    cases h with
    | tup _ _ vs hl hh =>
      rw [D.renL_length] at hl
      exact .tup _ _ vs hl fun i d y h1 h2 => Rep.unrenL cs hh i d y h1 h2
  | .sl f rows, x, h => by
    have h' : Rep I ρ (.sl f rows) x := h
    cases h' with
    | nil _ _ a cap hf => exact .nil _ f a cap hf
    | sl _ _ _ b o cap sz c hI hsz hc hcap hf h1 hh => exact .sl _ f rows b o cap sz c hI hsz hc hcap hf h1 hh
  | .ref row k, x, h => by
    have h' : Rep I ρ (.ref row k) x := h
    cases h' with
    | ref _ _ _ b o c hI hc h1 hh => exact .ref _ row k b o c hI hc h1 hh
  | .own id off len, x, h => by
    have h' : Rep I ρ (.own (σ id) off len) x := h
    cases h' with
    | own _ _ _ _ l a hl hcap ha => exact .own _ id off len l a hl hcap ha
  | .ptr id i k, x, h => by
    have h' : Rep I ρ (.ptr (σ id) i k) x := h
    cases h' with
    | ptr _ _ _ _ b l hl hb => exact .ptr _ id i k b l hl hb
  | .fn f nf cs, x, h => by
    cases h with
    | fn _ _ _ _ fs vs hn hl hh =>
      rw [D.renL_length] at hl
      exact .fn _ f _ _ fs vs hn hl fun i d y h1 h2 => Rep.unrenL cs hh i d y h1 h2
  | .junk, x, h => .junk _ _
theorem Rep.unrenL {I : Imm} {ρ : Locs} {σ : Nat → Nat} {vs : Array Value} : ∀ (cs : List D), (∀ (i : Nat) (d : D) (x : Value), (D.renL σ cs)[i]? = some d → vs[i]? = some x → Rep I ρ d x) →
    ∀ (i : Nat) (d : D) (x : Value), cs[i]? = some d → vs[i]? = some x → Rep I (fun j => ρ (σ j)) d x
  | [], _, i, d, x, h1, _ => by simp at h1
  | c :: cs, hh, 0, d, x, h1, h2 => by
    simp at h1; subst h1
    exact Rep.unren c (hh 0 _ x (by simp [D.renL]) h2)
  | c :: cs, hh, i + 1, d, x, h1, h2 => by
    have hsub : ∀ (k : Nat) (d : D) (x : Value), (D.renL σ cs)[k]? = some d → (vs.extract 1 vs.size)[k]? = some x → Rep I ρ d x := fun k d x q1 q2 => by
      refine hh (k + 1) d x (by simpa [D.renL] using q1) ?_
      rw [Array.getElem?_extract] at q2
      split at q2
      · rw [Nat.add_comm]; exact q2
      · cases q2
    refine Rep.unrenL (vs := vs.extract 1 vs.size) cs hsub i d x (by simpa using h1) ?_
    rw [Array.getElem?_extract, if_pos (by have := (Array.getElem?_eq_some_iff.1 h2).1; omega), Nat.add_comm]
    exact h2
end
def Contract (P : Program) (f : FuncId) (ds : List D) (r : D) (objs : List AObj) : Prop :=
  ∀ (w : World) (I : Imm) (vs : List Value), ImmOk I w → RepL I noLocs ds vs → Calls P f vs.toArray w fun e w' => ∃ v ρ' I', e = .returned v ∧ (∀ b c, I b = some c → I' b = some c) ∧ (∀ b c, I' b = some c → I b = some c ∨ w.heap.size ≤ b) ∧
    Rep I' ρ' r v ∧ Mem I' ρ' (fun j => objs[j]?) w' ∧ (∀ j l, ρ' j = some l → j < objs.length) ∧ Ext (fun _ => False) w w' ∧ (∀ (j : Nat) o l b, objs[j]? = some o → o.wr = true → ρ' j = some l → l.blk = some b → w.heap.size ≤ b)
section
variable {P : Program} {E : Ent} {st : St} {a : Act} {w w' : World} {ρ : Locs} {I J : Imm} {tt : TypeId → Option TI}
theorem RB.world (h : RB E st a w ρ I) (hx : Ext (fun _ => False) w w') (hI : ∀ b c, I b = some c → J b = some c) (hJ : ∀ b c, J b = some c → I b = some c ∨ w.heap.size ≤ b) (hok : ImmOk J w') : RB E st a w' ρ J where
  size := h.size
  defers := h.defers
  slots := fun t d hd => ⟨(h.slots t d hd).1, (h.slots t d hd).2.imm hI⟩
  mem := by
    refine ⟨fun id o ho => ?_, h.mem.apart, hok⟩
    obtain ⟨l, e, hl⟩ := h.mem.laid id o ho
    refine ⟨l, e, hl.kept hI (fun b hb => hx.block b (blk_lt hl hb) (by simp)) (fun b hb hm hn => ?_) (fun _ _ q => q.imm hI)⟩
    cases hJb : J b with
    | none => rfl
    | some c =>
      rcases hJ b c hJb with q | q
      · rw [hn] at q; cases q
      · have := blk_lt hl hb; omega
  i0 := fun b c q => hI b c (h.i0 b c q)
  i1 := fun b c q => by
    rcases hJ b c q with q | q
    · exact h.i1 b c q
    · right; right; have := h.ext.size; omega
  ext := h.ext.trans hx (by simp)
  fresh := h.fresh
  pins := h.pins
  mp := fun m hm => (h.mp m hm).keep (hx.block _ (h.mp m hm).lt (by simp))
theorem RB.adopt (h : RB E st a w ρ I) {id : Nat} {o : AObj} {l : Loc} (hl : LaidObj I ρ w o l) (hap : ∀ b, l.blk = some b → o.wr = true → ∀ i2 o2 l2, i2 ≠ id → st.heap i2 = some o2 → o2.wr = true → ρ i2 = some l2 → l2.blk ≠ some b)
    (hfr : ∀ b, l.blk = some b → o.wr = true → E.M b ∨ E.w0.heap.size ≤ b) (hpin : o.pin = false := by rfl) : RB E (st.bind id o) a w (updL ρ id l) I where
  size := h.size
  defers := h.defers
  slots := by
    intro t d hd
    simp only [St.bind, killS] at hd
    cases h1 : st.slots t with
    | none => simp [h1] at hd
    | some d' =>
      simp [h1] at hd; subst hd
      obtain ⟨q1, q2⟩ := h.slots t d' h1
      exact ⟨q1, q2.kill updL_ne⟩
  mem := by
    refine ⟨?_, ?_, h.mem.imm⟩
    · intro id2 o2 h2
      simp only [St.bind, upd] at h2
      split at h2
      · rename_i e; subst e; cases h2
        exact ⟨l, updL_eq, hl.killed (fun _ _ => rfl) updL_ne⟩
      · rename_i hne
        obtain ⟨_, o', h3, rfl⟩ := killH_some h2
        obtain ⟨l2, e2, hlaid⟩ := h.mem.laid id2 o' h3
        exact ⟨l2, by rw [updL_ne _ hne]; exact e2, hlaid.killed (fun _ _ => rfl) updL_ne⟩
    · intro i1 o1 l1 i2 o2 l2 b h1 m1 e1 b1 h2 m2 e2 b2
      simp only [St.bind, upd] at h1 h2
      by_cases c1 : i1 = id <;> by_cases c2 : i2 = id
      · omega
      · subst c1
        simp only [if_true, Option.some.injEq] at h1
        simp only [c2, if_false] at h2
        rw [updL_eq] at e1; cases e1
        rw [updL_ne _ c2] at e2
        obtain ⟨_, o', h3, rfl⟩ := killH_some h2
        rw [← h1, AObj.kill_wr] at m1
        rw [AObj.kill_wr] at m2
        exact absurd b2 (hap b b1 m1 i2 o' l2 c2 h3 m2 e2)
      · subst c2
        simp only [if_true, Option.some.injEq] at h2
        simp only [c1, if_false] at h1
        rw [updL_eq] at e2; cases e2
        rw [updL_ne _ c1] at e1
        obtain ⟨_, o', h3, rfl⟩ := killH_some h1
        rw [← h2, AObj.kill_wr] at m2
        rw [AObj.kill_wr] at m1
        exact absurd b1 (hap b b2 m2 i1 o' l1 c1 h3 m1 e1)
      · simp only [c1, if_false] at h1
        simp only [c2, if_false] at h2
        rw [updL_ne _ c1] at e1
        rw [updL_ne _ c2] at e2
        obtain ⟨_, o1', h3, rfl⟩ := killH_some h1
        obtain ⟨_, o2', h4, rfl⟩ := killH_some h2
        rw [AObj.kill_wr] at m1 m2
        exact h.mem.apart _ _ _ _ _ _ _ h3 m1 e1 b1 h4 m2 e2 b2
  i0 := h.i0
  i1 := h.i1
  ext := h.ext
  fresh := by
    intro i2 o2 l2 b h2 m2 e2 b2
    simp only [St.bind, upd] at h2
    by_cases c2 : i2 = id
    · subst c2
      simp only [if_true, Option.some.injEq] at h2
      rw [updL_eq] at e2; cases e2
      rw [← h2, AObj.kill_wr] at m2
      exact hfr b b2 m2
    · simp only [c2, if_false] at h2
      rw [updL_ne _ c2] at e2
      obtain ⟨_, o', h3, rfl⟩ := killH_some h2
      rw [AObj.kill_wr] at m2
      exact h.fresh _ _ _ _ h3 m2 e2 b2
  pins := by
    intro i2 o2 h2 hp
    simp only [St.bind, upd] at h2
    by_cases c2 : i2 = id
    · subst c2
      simp only [if_true, Option.some.injEq] at h2
      rw [← h2, AObj.kill_pin, hpin] at hp; cases hp
    · simp only [c2, if_false] at h2
      rw [updL_ne _ c2]
      obtain ⟨_, o', h3, rfl⟩ := killH_some h2
      rw [AObj.kill_pin] at hp
      exact h.pins _ _ h3 hp
  mp := h.mp
end
end Go.Ab
namespace Go.Ab
set_option linter.unusedSimpArgs false
set_option linter.unusedVariables false
def St.adoptL (st : St) (nid : Nat) : List AObj → Nat → St
  | [], _ => st
  | o :: os, j => (St.adoptL st nid os (j + 1)).bind (nid + j) (o.ren (nid + ·))
def objsOk : List AObj → Nat → Bool
  | [], _ => true
  | o :: os, j => (!o.pin && (o.flat || o.rows.all (D.allL fun k => decide (j < k)))) && objsOk os (j + 1)
mutual
def D.scal : D → Bool
  | .v _ => true
  | .junk => true
  | .agg cs => D.scalL cs
  | .tup cs => D.scalL cs
  | _ => false
def D.scalL : List D → Bool
  | [] => true
  | d :: ds => D.scal d && D.scalL ds
end
theorem D.scalL_get : ∀ {cs : List D}, D.scalL cs = true → ∀ {i : Nat} {d : D}, cs[i]? = some d → d.scal = true
  | [], _, i, d, h => by simp at h
  | c :: cs, ha, 0, d, h => by
    simp only [List.getElem?_cons_zero, Option.some.injEq] at h
    simp only [D.scalL, Bool.and_eq_true] at ha
    exact h ▸ ha.1
  | c :: cs, ha, i + 1, d, h => by
    simp only [List.getElem?_cons_succ] at h
    simp only [D.scalL, Bool.and_eq_true] at ha
    exact D.scalL_get ha.2 h
theorem Rep.scal {I J : Imm} {ρ ρ' : Locs} {d : D} {x : Value} (h : Rep I ρ d x) (hs : d.scal = true) : Rep J ρ' d x := by
  induction h with
  | v ρ x => exact .v _ x
  | agg ρ cs vs hl _ ih => exact .agg _ cs vs hl fun i d x h1 h2 => ih i d x h1 h2 (D.scalL_get (by simpa [D.scal] using hs) h1)
  | tup ρ cs vs hl _ ih => exact .tup _ cs vs hl fun i d x h1 h2 => ih i d x h1 h2 (D.scalL_get (by simpa [D.scal] using hs) h1)
  | junk ρ x => exact .junk _ x
  | _ => simp [D.scal] at hs
def FnOk (P : Program) (f : FuncId) : Prop := ∃ fn, P.funcs[f]? = some fn ∧ (fn.name == "runtime.NumGoroutine") = false ∧ fn.body.isNone = false
def fnOf : D → Option (FuncId × List D × List D)
  | .v (.func (.func f) a b) => if a.isEmpty = true ∧ b.isEmpty = true then some (f, [], []) else none
  | .fn (.func f) nf caps => some (f, caps.take nf, caps.drop nf)
  | _ => none
section
variable {P : Program} {E : Ent} {st : St} {a : Act} {w w' : World} {ρ : Locs} {I J : Imm} {tt : TypeId → Option TI}
theorem RB.adoptL {nid n0 : Nat} {objs : List AObj} {ρ' : Locs} (hm : Mem I ρ' (fun j => objs[j]?) w) (hdom : ∀ j l, ρ' j = some l → j < objs.length) (hfr : ∀ (j : Nat) o l b, objs[j]? = some o → o.wr = true → ρ' j = some l → l.blk = some b → n0 ≤ b)
    (h0 : E.w0.heap.size ≤ n0) (h : RB E st a w ρ I) (hold : ∀ i o l b, st.heap i = some o → o.wr = true → ρ i = some l → l.blk = some b → b < n0) :
    ∀ (os : List AObj) (j : Nat), (∀ k, os[k]? = objs[j + k]?) → objsOk os j = true → ∃ ρ2, RB E (st.adoptL nid os j) a w ρ2 I ∧ (∀ k l, j ≤ k → k < j + os.length → ρ' k = some l → ρ2 (nid + k) = some l) ∧
      ∀ i o l b, (st.adoptL nid os j).heap i = some o → o.wr = true → ρ2 i = some l → l.blk = some b → b < n0 ∨ ∃ k o', j ≤ k ∧ k < j + os.length ∧ i = nid + k ∧ objs[k]? = some o' ∧ o'.wr = true ∧ ρ' k = some l
  | [], j, _, _ => ⟨ρ, h, fun k l h1 h2 => by simp at h2; omega, fun i o l b h1 h2 h3 h4 => .inl (hold i o l b h1 h2 h3 h4)⟩
  | o :: os, j, hos, hok => by
    simp only [objsOk, Bool.and_eq_true] at hok
    obtain ⟨ρ2, r1, r2, r3⟩ := RB.adoptL (nid := nid) hm hdom hfr h0 h hold os (j + 1) (fun k => by have := hos (k + 1); rw [show j + 1 + k = j + (k + 1) by omega]; simpa using this) hok.2
    have hoj : objs[j]? = some o := by have := hos 0; simpa using this.symm
    obtain ⟨l, hl, hlaid⟩ := hm.laid j o hoj
    have hlen : j + 1 + os.length ≤ objs.length := by
      rcases Nat.eq_zero_or_pos os.length with e | e
      · have := (List.getElem?_eq_some_iff.1 hoj).1; omega
      · have := hos os.length
        simp only [List.length_cons, List.getElem?_eq_getElem (show os.length < (o :: os).length by simp)] at this
        have := (List.getElem?_eq_some_iff.1 this.symm).1
        omega
    have hlaid' : LaidObj I ρ2 w (o.ren (nid + ·)) l := by
      cases hf : o.flat with
      | true =>
        have e : o.ren (nid + ·) = o := by simp [AObj.ren, hf]
        rw [e]
        exact hlaid.kept (fun _ _ q => q) (fun _ _ => rfl) (fun _ _ _ q => q) (fun d x q => q) |> fun q => by
          refine ⟨q.sz, q.pos, q.rows, q.cap, ?_⟩
          rcases q.mem with g0 | ⟨b, c, e, lo, hi, g1, g2, g3, g4, g5, g6, hone, g7⟩
          · exact .inl g0
          · refine .inr ⟨b, c, e, lo, hi, g1, g2, g3, g4, g5, g6, hone, fun i j row d x q1 q2 q3 => ?_⟩
            have := g7 i j row d x q1 q2 q3
            simpa [hf] using this
      | false =>
        have e : o.ren (nid + ·) = { o with rows := o.rows.map (D.renL (nid + ·)) } := by simp [AObj.ren, hf]
        have hall : o.rows.all (D.allL fun k => decide (j < k)) = true := by
          have := hok.1.2
          simpa [hf] using this
        rw [e]
        refine ⟨hlaid.sz, hlaid.pos, ?_, by simpa using hlaid.cap, ?_⟩
        · intro row hr
          simp only [List.mem_map] at hr
          obtain ⟨row', hr', rfl⟩ := hr
          rw [D.renL_length]; exact hlaid.rows _ hr'
        rcases hlaid.mem with g0 | ⟨b, c, e, lo, hi, g1, g2, g3, g4, g5, g6, hone, g7⟩
        · exact .inl g0
        · refine .inr ⟨b, c, e, lo, hi, g1, g2, g3, g4, g5, g6, hone, fun i jj row d x q1 q2 q3 => ?_⟩
          have q1' : (o.rows.map (D.renL (nid + ·)))[i]? = some row := q1
          rw [List.getElem?_map] at q1'
          cases hr : o.rows[i]? with
          | none => simp [hr] at q1'
          | some row' =>
            simp only [hr, Option.map_some, Option.some.injEq] at q1'
            subst q1'
            rw [D.renL_get] at q2
            cases hd : row'[jj]? with
            | none => simp [hd] at q2
            | some d' =>
              simp only [hd, Option.map_some, Option.some.injEq] at q2
              subst q2
              have hrep := g7 i jj row' d' x hr hd q3
              simp only [hf] at hrep ⊢
              have hall' : d'.all (fun k => decide (j < k)) = true := by
                have := List.all_eq_true.1 hall row' (List.mem_of_getElem? hr)
                exact D.allL_get this hd
              let ρr : Locs := fun k => if j < k then ρ' k else none
              have hrep' : Rep I ρr d' x := Rep.locs (p := fun k => decide (j < k)) (fun k hk => by simp only [decide_eq_true_eq] at hk; simp [ρr, hk]) hrep hall'
              refine hrep'.ren fun k l' hk => ?_
              simp only [ρr] at hk
              split at hk
              · rename_i hjk
                have hlt : k < objs.length := hdom k l' hk
                exact r2 k l' (by omega) (by
                  have hlen2 : objs.length ≤ j + 1 + os.length := by
                    rcases Nat.lt_or_ge (j + 1 + os.length) objs.length with q | q
                    · have := hos (os.length + 1)
                      simp only [List.length_cons, List.getElem?_eq_none (show (o :: os).length ≤ os.length + 1 by simp)] at this
                      rw [List.getElem?_eq_getElem (by omega)] at this
                      cases this
                    · exact q
                  omega) hk
              · cases hk
    refine ⟨updL ρ2 (nid + j) l, ?_, ?_, ?_⟩
    · refine r1.adopt hlaid' (fun b hb hwr i2 o2 l2 hne h2 hw2 hl2 hb2 => ?_) (fun b hb hwr => ?_) (by rw [AObj.ren_pin]; simpa using hok.1.1)
      · rw [AObj.ren_wr] at hwr
        rcases r3 i2 o2 l2 b h2 hw2 hl2 hb2 with q | ⟨k, o', k1, k2, k3, k4, k5, k6⟩
        · have := hfr j o l b hoj hwr hl hb; omega
        · have := hm.apart j o l k o' l2 b hoj hwr hl hb k4 k5 k6 hb2
          omega
      · rw [AObj.ren_wr] at hwr
        have := hfr j o l b hoj hwr hl hb
        right; omega
    · intro k l' h1 h2 h3
      by_cases e : k = j
      · subst e; rw [hl] at h3; cases h3; exact updL_eq
      · rw [updL_ne _ (by omega)]
        exact r2 k l' (by omega) (by simp at h2; omega) h3
    · intro i oi li b h1 h2 h3 h4
      simp only [St.adoptL, St.bind, upd] at h1
      by_cases e : i = nid + j
      · subst e
        rw [updL_eq] at h3; cases h3
        simp only [if_true, Option.some.injEq] at h1
        rw [← h1, AObj.kill_wr, AObj.ren_wr] at h2
        exact .inr ⟨j, o, Nat.le_refl _, by simp, rfl, hoj, h2, hl⟩
      · simp only [e, if_false] at h1
        rw [updL_ne _ e] at h3
        obtain ⟨_, o', h5, rfl⟩ := killH_some h1
        rw [AObj.kill_wr] at h2
        rcases r3 i o' li b h5 h2 h3 h4 with q | ⟨k, o2, k1, k2, k3, k4, k5, k6⟩
        · exact .inl q
        · exact .inr ⟨k, o2, by omega, by simp; omega, k3, k4, k5, k6⟩
theorem RB.oldBlk (h : RB E st a w ρ I) : ∀ i o l b, st.heap i = some o → o.wr = true → ρ i = some l → l.blk = some b → b < w.heap.size := by
  intro i o l b h1 _ h3 h4
  obtain ⟨l', e, hl⟩ := h.mem.laid i o h1
  rw [h3] at e; cases e
  exact blk_lt hl h4
theorem RB.callPure (h : RB E st a w ρ I) {f : FuncId} {args ds : List D} {ids : List Nat} {p : Prop} {r : D} {objs : List AObj} {vs : List Value} (nid : Nat) (hpur : Go.Ab.purL (Go.Ab.pur st.heap 4) args = some (ids, p, ds)) (hp : p) (hu : RepL I ρ args vs)
    (hc : Contract P f ds r objs) (hok : objsOk objs 0 = true) :
    Calls P f vs.toArray w fun e w' => ∃ v, e = .returned v ∧ Did E ((st.freeze ids).adoptL nid objs 0) a (r.ren (nid + ·)) v w' := by
  obtain ⟨J, hJ, h', hds⟩ := h.purL hpur hp hu
  refine (hc w J vs h'.mem.imm hds).mono fun e w' ⟨v, ρ', I', he, c1, c2, c3, c4, c5, c6, c7⟩ => ⟨v, he, ?_⟩
  have hw := h'.world c6 c1 c2 c4.imm
  obtain ⟨ρ2, r1, r2, r3⟩ := RB.adoptL (nid := nid) (n0 := w.heap.size) c4 c5 c7 h.ext.size hw h'.oldBlk objs 0 (by simp) hok
  refine ⟨ρ2, I', r1, c3.ren fun k l hk => r2 k l (Nat.zero_le _) (by have := c5 k l hk; omega) hk⟩
theorem RB.callScal (h : RB E st a w ρ I) {f : FuncId} {args ds : List D} {ids : List Nat} {p : Prop} {r : D} {vs : List Value} (hpur : Go.Ab.purL (Go.Ab.pur st.heap 4) args = some (ids, p, ds)) (hp : p) (hu : RepL I ρ args vs)
    (hc : Contract P f ds r []) (hs : r.scal = true) : Calls P f vs.toArray w fun e w' => ∃ v, e = .returned v ∧ Did E st a r v w' := by
  obtain ⟨J, hJ, h', hds⟩ := h.purL hpur hp hu
  refine (hc w J vs h'.mem.imm hds).mono fun e w' ⟨v, ρ', I', he, c1, c2, c3, c4, c5, c6, c7⟩ => ⟨v, he, ρ, I, ?_, c3.scal hs⟩
  exact h.world c6 (fun _ _ q => q) (fun _ _ q => .inl q) (fun b c q => c4.imm b c (c1 b c (hJ b c q)))
theorem laid_unren {σ : Nat → Nat} {o : AObj} {l : Loc} {n : Nat} (h : LaidObj I ρ w (o.ren σ) l) (hf : o.flat = true ∨ o.rows.all (D.allL fun k => decide (k < n)) = true) :
    LaidObj I (fun j => if j < n then ρ (σ j) else none) w o l := by
  cases hfl : o.flat with
  | true =>
    have e : o.ren σ = o := by simp [AObj.ren, hfl]
    rw [e] at h
    refine ⟨h.sz, h.pos, h.rows, h.cap, ?_⟩
    rcases h.mem with g0 | ⟨b, c, e, lo, hi, g1, g2, g3, g4, g5, g6, hone, g7⟩
    · exact .inl g0
    · refine .inr ⟨b, c, e, lo, hi, g1, g2, g3, g4, g5, g6, hone, fun i j row d x q1 q2 q3 => ?_⟩
      have := g7 i j row d x q1 q2 q3
      simpa [hfl] using this
  | false =>
    have hall : o.rows.all (D.allL fun k => decide (k < n)) = true := by simpa [hfl] using hf
    have e : o.ren σ = { o with rows := o.rows.map (D.renL σ) } := by simp [AObj.ren, hfl]
    rw [e] at h
    have hget : ∀ (i : Nat) (row : List D), o.rows[i]? = some row → (o.rows.map (D.renL σ))[i]? = some (D.renL σ row) := fun i row hr => by rw [List.getElem?_map, hr]; rfl
    refine ⟨h.sz, h.pos, fun row hr => ?_, by simpa using h.cap, ?_⟩
    · obtain ⟨i, hi⟩ := List.getElem?_of_mem hr
      have := h.rows _ (List.mem_of_getElem? (hget i row hi))
      rwa [D.renL_length] at this
    · rcases h.mem with g0 | ⟨b, c, e, lo, hi, g1, g2, g3, g4, g5, g6, hone, g7⟩
      · exact .inl g0
      · refine .inr ⟨b, c, e, lo, hi, g1, g2, g3, g4, g5, g6, hone, fun i j row d x q1 q2 q3 => ?_⟩
        have hd : (D.renL σ row)[j]? = some (d.ren σ) := by rw [D.renL_get, q2]; rfl
        have := g7 i j _ _ x (hget i row q1) hd q3
        simp only [hfl] at this ⊢
        have h2 := Rep.unren d this
        have hall' : d.all (fun k => decide (k < n)) = true := D.allL_get (List.all_eq_true.1 hall row (List.mem_of_getElem? q1)) q2
        exact h2.locs (p := fun k => decide (k < n)) (fun k hk => by simp only [decide_eq_true_eq] at hk; simp [hk]) hall'
mutual
def D.noI : D → Bool
  | .sl _ [] => true
  | .sl _ (_ :: _) => false
  | .ref _ _ => false
  | .agg cs => D.noIL cs
  | .tup cs => D.noIL cs
  | .fn _ _ cs => D.noIL cs
  | _ => true
def D.noIL : List D → Bool
  | [] => true
  | d :: ds => D.noI d && D.noIL ds
end
theorem D.noIL_get : ∀ {cs : List D}, D.noIL cs = true → ∀ {i : Nat} {d : D}, cs[i]? = some d → d.noI = true
  | [], _, i, d, h => by simp at h
  | c :: cs, ha, 0, d, h => by
    simp only [List.getElem?_cons_zero, Option.some.injEq] at h
    simp only [D.noIL, Bool.and_eq_true] at ha
    exact h ▸ ha.1
  | c :: cs, ha, i + 1, d, h => by
    simp only [List.getElem?_cons_succ] at h
    simp only [D.noIL, Bool.and_eq_true] at ha
    exact D.noIL_get ha.2 h
theorem Rep.noI {d : D} {x : Value} (h : Rep I ρ d x) (hs : d.noI = true) : Rep J ρ d x := by
  induction h with
  | v ρ x => exact .v _ x
  | agg ρ cs vs hl _ ih => exact .agg _ cs vs hl fun i d x h1 h2 => ih i d x h1 h2 (D.noIL_get (by simpa [D.noI] using hs) h1)
  | tup ρ cs vs hl _ ih => exact .tup _ cs vs hl fun i d x h1 h2 => ih i d x h1 h2 (D.noIL_get (by simpa [D.noI] using hs) h1)
  | fn ρ f nf cs fs vs hn hl _ ih => exact .fn _ f nf cs fs vs hn hl fun i d x h1 h2 => ih i d x h1 h2 (D.noIL_get (by simpa [D.noI] using hs) h1)
  | junk ρ x => exact .junk _ x
  | nil ρ f a cap hf => exact .nil _ f a cap hf
  | sl ρ f rows b o cap sz c hI hsz hc hcap hf h1 h _ =>
    cases rows with
    | nil => exact .nil _ f _ cap (by simpa using hf)
    | cons r rows => simp [D.noI] at hs
  | ref ρ row k b o c hI hc h1 h _ => simp [D.noI] at hs
  | own ρ id off len l a hl hcap ha => exact .own _ id off len l a hl hcap ha
  | ptr ρ id i k b l hl hb => exact .ptr _ id i k b l hl hb
def AObj.noI (o : AObj) : Bool := o.wr && o.rows.all D.noIL
theorem LaidObj.noI {o : AObj} {l : Loc} (h : LaidObj I ρ w o l) (hs : o.noI = true) (hJ : ∀ b c, J b = some c → I b = some c) : LaidObj J ρ w o l := by
  simp only [AObj.noI, Bool.and_eq_true] at hs
  refine ⟨h.sz, h.pos, h.rows, h.cap, ?_⟩
  rcases h.mem with g0 | ⟨b, c, e, lo, hi, g1, g2, g3, g4, g5, g6, hone, g7⟩
  · exact .inl g0
  · refine .inr ⟨b, c, e, lo, hi, g1, g2, g3, g4, (fun q => by simp [hs.1] at q), fun q => ?_, hone, fun i j row d x q1 q2 q3 => ?_⟩
    · cases hJb : J b with
      | none => rfl
      | some c' => have := hJ _ _ hJb; rw [g6 q] at this; cases this
    · exact (g7 i j row d x q1 q2 q3).noI (D.noIL_get (List.all_eq_true.1 hs.2 row (List.mem_of_getElem? q1)) q2)
theorem RB.callOwn (h : RB E st a w ρ I) {f : FuncId} {args ds : List D} {ids : List Nat} {p : Prop} {r : D} {objs : List AObj} {vs : List Value} (nid : Nat) (hpur : Go.Ab.purL (Go.Ab.pur st.heap 4) args = some (ids, p, ds)) (hp : p) (hu : RepL I ρ args vs)
    (hc : Contract P f ds r objs) (hok : objsOk objs 0 = true) (hr : r.noI = true) (ho : objs.all AObj.noI = true) :
    Calls P f vs.toArray w fun e w' => ∃ v, e = .returned v ∧ Did E (st.adoptL nid objs 0) a (r.ren (nid + ·)) v w' := by
  obtain ⟨J, hJ, h', hds⟩ := h.purL hpur hp hu
  refine (hc w J vs h'.mem.imm hds).mono fun e w' ⟨v, ρ', I', he, c1, c2, c3, c4, c5, c6, c7⟩ => ⟨v, he, ?_⟩
  have hok' : ImmOk I w' := fun b c q => c4.imm b c (c1 b c (hJ b c q))
  have hw := h.world c6 (fun _ _ q => q) (fun _ _ q => .inl q) hok'
  have c4' : Mem I ρ' (fun j => objs[j]?) w' := ⟨fun id o q => by
    obtain ⟨l, e, hl⟩ := c4.laid id o q
    exact ⟨l, e, hl.noI (List.all_eq_true.1 ho o (List.mem_of_getElem? q)) (fun b c q => c1 b c (hJ b c q))⟩, c4.apart, hok'⟩
  obtain ⟨ρ2, r1, r2, r3⟩ := RB.adoptL (nid := nid) (n0 := w.heap.size) c4' c5 c7 h.ext.size hw h.oldBlk objs 0 (by simp) hok
  refine ⟨ρ2, I, r1, (c3.noI hr).ren fun k l hk => r2 k l (Nat.zero_le _) (by have := c5 k l hk; omega) hk⟩
def AObj.bare (o : AObj) : AObj := { o with pin := false }
def AObj.pinned (o : AObj) : AObj := { o with pin := true }
def pinAt (h : Nat → Option AObj) (id : Nat) : Bool := match h id with | some o => o.pin | none => false
theorem LaidObj.pinAny {o : AObj} {l : Loc} (h : LaidObj I ρ w o l) (b : Bool) : LaidObj I ρ w { o with pin := b } l := ⟨h.sz, h.pos, h.rows, h.cap, h.mem⟩
theorem LaidObj.ofBare {o o' : AObj} {l : Loc} (h : LaidObj I ρ w o l) (e : o.bare = o'.bare) : LaidObj I ρ w o' l := by
  have h1 : LaidObj I ρ w o'.bare l := e ▸ h.pinAny false
  exact h1.pinAny o'.pin
def InsBlk (ins : List AObj) (ρ : Locs) (b : Nat) : Prop := ∃ j o l, ins[j]? = some o ∧ o.wr = true ∧ ρ j = some l ∧ l.blk = some b
def outAt (outs : List (Option AObj)) (j : Nat) : Option AObj := (outs[j]?).join
def ContractM (P : Program) (f : FuncId) (ins : List AObj) (ds : List D) (r : D) (outs : List (Option AObj)) : Prop :=
  ∀ (w : World) (I : Imm) (ρ : Locs) (vs : List Value), Mem I ρ (fun j => ins[j]?) w → RepL I ρ ds vs → Calls P f vs.toArray w fun e w' => ∃ v ρ' I', e = .returned v ∧ (∀ b c, I b = some c → I' b = some c) ∧ (∀ b c, I' b = some c → I b = some c ∨ InsBlk ins ρ b ∨ w.heap.size ≤ b) ∧
    Rep I' ρ' r v ∧ Mem I' ρ' (outAt outs) w' ∧ (∀ j l, ρ' j = some l → (outAt outs j).isSome = true) ∧ Ext (InsBlk ins ρ) w w' ∧ (∀ (j : Nat) o l b, outAt outs j = some o → o.wr = true → ρ' j = some l → l.blk = some b → InsBlk ins ρ b ∨ w.heap.size ≤ b) ∧
    (∀ j, j < ins.length → (outAt outs j).isSome = true → ρ' j = ρ j)
def killsS : List Nat → (Nat → Option D) → Nat → Option D
  | [], f => f
  | k :: K, f => killS k (killsS K f)
def killsH : List Nat → (Nat → Option AObj) → Nat → Option AObj
  | [], f => f
  | k :: K, f => killH k (killsH K f)
mutual
theorem D.all_true : ∀ d : D, d.all (fun _ => true) = true
  | .v _ => rfl
  | .agg cs => D.allL_true cs
  | .tup cs => D.allL_true cs
  | .sl _ _ => rfl
  | .ref _ _ => rfl
  | .own _ _ _ => rfl
  | .ptr _ _ _ => rfl
  | .fn _ _ cs => D.allL_true cs
  | .junk => rfl
theorem D.allL_true : ∀ cs : List D, D.allL (fun _ => true) cs = true
  | [] => rfl
  | c :: cs => by simp only [D.allL, D.all_true c, D.allL_true cs, Bool.and_self]
end
theorem killsS_some : ∀ {K : List Nat} {f : Nat → Option D} {t : Nat} {d : D}, killsS K f t = some d → ∃ d0, f t = some d0 ∧ ∀ {I : Imm} {ρ ρ' : Locs} {x : Value}, (∀ id, id ∉ K → ρ' id = ρ id) → Rep I ρ d0 x → Rep I ρ' d x
  | [], f, t, d, h => ⟨d, h, fun hp hx => by
      exact hx.locs (p := fun _ => true) (fun id _ => hp id (by simp)) (D.all_true d)⟩
  | k :: K, f, t, d, h => by
    simp only [killsS, killS] at h
    cases h1 : killsS K f t with
    | none => simp [h1] at h
    | some d1 =>
      simp [h1] at h; subst h
      obtain ⟨d0, e0, hd⟩ := killsS_some h1
      refine ⟨d0, e0, fun {I ρ ρ' x} hp hx => ?_⟩
      have := hd (ρ' := fun id => if id = k then ρ k else ρ' id) (fun id hid => by
        by_cases e : id = k
        · subst e; simp
        · simp only [e, if_false]; exact hp id (by simp [e, hid])) hx
      exact this.kill fun id hid => by simp [hid]
theorem killsH_some : ∀ {K : List Nat} {f : Nat → Option AObj} {id : Nat} {o : AObj}, killsH K f id = some o → id ∉ K ∧ ∃ o0, f id = some o0 ∧ o.wr = o0.wr ∧ o.pin = o0.pin ∧ ∀ {I : Imm} {ρ ρ' : Locs} {w w' : World} {l : Loc}, (∀ id, id ∉ K → ρ' id = ρ id) → (∀ b, l.blk = some b → w'.heap[b]? = w.heap[b]?) → LaidObj I ρ w o0 l → LaidObj I ρ' w' o l
  | [], f, id, o, h => ⟨by simp, o, h, rfl, rfl, fun hp hb hl => hl.kept (fun _ _ q => q) hb (fun _ _ _ q => q) (fun d x q => q.locs (p := fun _ => true) (fun id _ => hp id (by simp)) (D.all_true d))⟩
  | k :: K, f, id, o, h => by
    simp only [killsH] at h
    obtain ⟨hne, o1, h1, rfl⟩ := killH_some h
    obtain ⟨g0, o0, e0, e1, e2, hd⟩ := killsH_some h1
    refine ⟨by simp [hne, g0], o0, e0, by rw [AObj.kill_wr, e1], by rw [AObj.kill_pin, e2], fun {I ρ ρ' w w' l} hp hb hl => ?_⟩
    have := hd (ρ' := fun id => if id = k then ρ k else ρ' id) (fun id hid => by
      by_cases e : id = k
      · subst e; simp
      · simp only [e, if_false]; exact hp id (by simp [e, hid])) hb hl
    exact this.killed (fun _ _ => rfl) (fun id hid => by simp [hid])
def adoptM (σ : Nat → Nat) (k : Nat) (h0 : Nat → Option AObj) (base : Nat → Option AObj) : List (Option AObj) → Nat → Nat → Option AObj
  | [], _ => base
  | none :: os, j => adoptM σ k h0 base os (j + 1)
  | some o :: os, j => upd (adoptM σ k h0 base os (j + 1)) (σ j) { o.ren σ with pin := decide (j < k) && pinAt h0 (σ j) }
theorem adoptM_cases {σ : Nat → Nat} {k : Nat} {h0 base : Nat → Option AObj} : ∀ {os : List (Option AObj)} {j id : Nat} {o' : AObj}, adoptM σ k h0 base os j id = some o' →
    (∃ i o, outAt os i = some o ∧ id = σ (j + i) ∧ o' = { o.ren σ with pin := decide (j + i < k) && pinAt h0 (σ (j + i)) }) ∨ ((∀ i, (outAt os i).isSome = true → id ≠ σ (j + i)) ∧ base id = some o')
  | [], j, id, o', h => .inr ⟨fun i hi => by simp [outAt] at hi, h⟩
  | none :: os, j, id, o', h => by
    simp only [adoptM] at h
    rcases adoptM_cases h with ⟨i, o, h1, h2, h3⟩ | ⟨h1, h2⟩
    · exact .inl ⟨i + 1, o, by simpa [outAt] using h1, by rw [h2]; congr 1; omega, by rw [h3]; simp [Nat.add_assoc, Nat.add_comm 1 i]⟩
    · refine .inr ⟨fun i hi => ?_, h2⟩
      cases i with
      | zero => simp [outAt] at hi
      | succ i => have := h1 i (by simpa [outAt] using hi); rwa [show j + 1 + i = j + (i + 1) by omega] at this
  | some o1 :: os, j, id, o', h => by
    simp only [adoptM, upd] at h
    split at h
    · rename_i e
      simp only [Option.some.injEq] at h
      exact .inl ⟨0, o1, by simp [outAt], by simpa using e, by simpa using h.symm⟩
    · rename_i e
      rcases adoptM_cases h with ⟨i, o, h1, h2, h3⟩ | ⟨h1, h2⟩
      · exact .inl ⟨i + 1, o, by simpa [outAt] using h1, by rw [h2]; congr 1; omega, by rw [h3]; simp [Nat.add_assoc, Nat.add_comm 1 i]⟩
      · refine .inr ⟨fun i hi => ?_, h2⟩
        cases i with
        | zero => simpa using e
        | succ i => have := h1 i (by simpa [outAt] using hi); rwa [show j + 1 + i = j + (i + 1) by omega] at this
def struck (gs : List Nat) (nid k : Nat) : List (Option AObj) → Nat → List Nat
  | [], _ => []
  | none :: os, j => (if j < k then gs.getD j 0 else nid + j) :: struck gs nid k os (j + 1)
  | some _ :: os, j => if j < k then struck gs nid k os (j + 1) else (nid + j) :: struck gs nid k os (j + 1)
def sigM (gs : List Nat) (nid k : Nat) (j : Nat) : Nat := if j < k then gs.getD j 0 else nid + j
theorem struck_new {gs : List Nat} {nid k : Nat} : ∀ {os : List (Option AObj)} {j i : Nat}, i < os.length → k ≤ j + i → nid + (j + i) ∈ struck gs nid k os j
  | [], j, i, h, _ => by simp at h
  | none :: os, j, 0, h, hk => by simp only [struck, Nat.add_zero] at *; rw [if_neg (by omega)]; simp
  | some o :: os, j, 0, h, hk => by simp only [struck, Nat.add_zero] at *; rw [if_neg (by omega)]; simp
  | none :: os, j, i + 1, h, hk => by
    have := struck_new (gs := gs) (nid := nid) (k := k) (os := os) (j := j + 1) (i := i) (by simpa using h) (by omega)
    rw [show j + 1 + i = j + (i + 1) by omega] at this
    simp only [struck]; exact List.mem_cons_of_mem _ this
  | some o :: os, j, i + 1, h, hk => by
    have := struck_new (gs := gs) (nid := nid) (k := k) (os := os) (j := j + 1) (i := i) (by simpa using h) (by omega)
    rw [show j + 1 + i = j + (i + 1) by omega] at this
    simp only [struck]; split
    · exact this
    · exact List.mem_cons_of_mem _ this
theorem struck_gone {gs : List Nat} {nid k : Nat} : ∀ {os : List (Option AObj)} {j i : Nat}, i < os.length → j + i < k → outAt os i = none → gs.getD (j + i) 0 ∈ struck gs nid k os j
  | [], j, i, h, _, _ => by simp at h
  | none :: os, j, 0, h, hk, _ => by simp only [struck, Nat.add_zero] at *; rw [if_pos (by omega)]; simp
  | some o :: os, j, 0, h, hk, hn => by simp [outAt] at hn
  | none :: os, j, i + 1, h, hk, hn => by
    have := struck_gone (gs := gs) (nid := nid) (k := k) (os := os) (j := j + 1) (i := i) (by simpa using h) (by omega) (by simpa [outAt] using hn)
    rw [show j + 1 + i = j + (i + 1) by omega] at this
    simp only [struck]; exact List.mem_cons_of_mem _ this
  | some o :: os, j, i + 1, h, hk, hn => by
    have := struck_gone (gs := gs) (nid := nid) (k := k) (os := os) (j := j + 1) (i := i) (by simpa using h) (by omega) (by simpa [outAt] using hn)
    rw [show j + 1 + i = j + (i + 1) by omega] at this
    simp only [struck]; split
    · exact this
    · exact List.mem_cons_of_mem _ this
def purM (h : Nat → Option AObj) (gs : List Nat) (d : D) : PurR D := if (d.all fun k => gs.contains k) = true then some ([], True, d) else pur h 4 d
def St.callM (st : St) (gs : List Nat) (nid : Nat) (k : Nat) (outs : List (Option AObj)) : St :=
  { st with slots := killsS (struck gs nid k outs 0) st.slots, heap := adoptM (sigM gs nid k) k st.heap (killsH (struck gs nid k outs 0) st.heap) outs 0 }
def InsAt (h : Nat → Option AObj) (gs : List Nat) : List AObj → Nat → Prop
  | [], _ => True
  | o :: os, j => (h (gs.getD j 0)).map AObj.bare = some (o.ren fun j => gs.getD j 0).bare ∧ InsAt h gs os (j + 1)
theorem InsAt.get {h : Nat → Option AObj} {gs : List Nat} : ∀ {os : List AObj} {j : Nat}, InsAt h gs os j → ∀ {i : Nat} {o : AObj}, os[i]? = some o → ∃ oc, h (gs.getD (j + i) 0) = some oc ∧ oc.bare = (o.ren fun j => gs.getD j 0).bare
  | [], _, _, i, o, h => by simp at h
  | o1 :: os, j, hh, 0, o, h => by
    simp at h; subst h
    have := hh.1
    simp only [Nat.add_zero]
    obtain ⟨oc, h1, h2⟩ := Option.map_eq_some_iff.1 this
    exact ⟨oc, h1, h2⟩
  | o1 :: os, j, hh, i + 1, o, h => by
    have := InsAt.get hh.2 (i := i) (o := o) (by simpa using h)
    rwa [show j + 1 + i = j + (i + 1) by omega] at this
def insOk (ins : List AObj) : Bool := ins.all fun o => o.flat || o.rows.all (D.allL fun i => decide (i < ins.length))
theorem Rep.mono {ρ ρ' : Locs} (hp : ∀ id l, ρ id = some l → ρ' id = some l) {d : D} {x : Value} (h : Rep I ρ d x) : Rep I ρ' d x := by
  induction h with
  | v ρ x => exact .v _ x
  | agg ρ cs vs hl _ ih => exact .agg _ cs vs hl fun i d x h1 h2 => ih i d x h1 h2 hp
  | tup ρ cs vs hl _ ih => exact .tup _ cs vs hl fun i d x h1 h2 => ih i d x h1 h2 hp
  | nil ρ f a cap hf => exact .nil _ f a cap hf
  | sl ρ f rows b o cap sz c hI hsz hc hcap hf h1 h _ => exact .sl _ f rows b o cap sz c hI hsz hc hcap hf h1 h
  | ref ρ row k b o c hI hc h1 h _ => exact .ref _ row k b o c hI hc h1 h
  | own ρ id off len l a hl hcap ha => exact .own _ id off len l a (hp _ _ hl) hcap ha
  | ptr ρ id i k b l hl hb => exact .ptr _ id i k b l (hp _ _ hl) hb
  | fn ρ f nf cs fs vs hn hl _ ih => exact .fn _ f nf cs fs vs hn hl fun i d x h1 h2 => ih i d x h1 h2 hp
  | junk ρ x => exact .junk _ x
theorem LaidObj.renTo {ρ ρ' : Locs} {σ : Nat → Nat} {o : AObj} {l : Loc} (hσ : ∀ j l, ρ j = some l → ρ' (σ j) = some l) (h : LaidObj I ρ w o l) : LaidObj I ρ' w (o.ren σ) l := by
  cases hf : o.flat with
  | true =>
    have e : o.ren σ = o := by simp [AObj.ren, hf]
    rw [e]
    refine ⟨h.sz, h.pos, h.rows, h.cap, ?_⟩
    rcases h.mem with g0 | ⟨b, c, e, lo, hi, g1, g2, g3, g4, g5, g6, hone, g7⟩
    · exact .inl g0
    · refine .inr ⟨b, c, e, lo, hi, g1, g2, g3, g4, g5, g6, hone, fun i j row d x q1 q2 q3 => ?_⟩
      have := g7 i j row d x q1 q2 q3
      simpa [hf] using this
  | false =>
    have e : o.ren σ = { o with rows := o.rows.map (D.renL σ) } := by simp [AObj.ren, hf]
    rw [e]
    refine ⟨h.sz, h.pos, fun row hr => ?_, by simpa using h.cap, ?_⟩
    · simp only [List.mem_map] at hr
      obtain ⟨row', hr', rfl⟩ := hr
      rw [D.renL_length]; exact h.rows _ hr'
    · rcases h.mem with g0 | ⟨b, c, e, lo, hi, g1, g2, g3, g4, g5, g6, hone, g7⟩
      · exact .inl g0
      · refine .inr ⟨b, c, e, lo, hi, g1, g2, g3, g4, g5, g6, hone, fun i j row d x q1 q2 q3 => ?_⟩
        have q1' : (o.rows.map (D.renL σ))[i]? = some row := q1
        rw [List.getElem?_map] at q1'
        obtain ⟨row', hr, rfl⟩ := Option.map_eq_some_iff.1 q1'
        rw [D.renL_get] at q2
        obtain ⟨d', hd, rfl⟩ := Option.map_eq_some_iff.1 q2
        have := g7 i j row' d' x hr hd q3
        simp only [hf] at this ⊢
        exact this.ren hσ
theorem repL_unren {σ : Nat → Nat} {k : Nat} : ∀ {ds : List D} {vs : List Value}, D.allL (fun j => decide (j < k)) ds = true → RepL I ρ (D.renL σ ds) vs → RepL I (fun j => if j < k then ρ (σ j) else none) ds vs
  | [], [], _, _ => trivial
  | [], _ :: _, _, h => by simp [D.renL, RepL] at h
  | d :: ds, [], _, h => by simp [D.renL, RepL] at h
  | d :: ds, x :: xs, ha, h => by
    simp only [D.allL, Bool.and_eq_true] at ha
    exact ⟨(Rep.unren d h.1).locs (p := fun j => decide (j < k)) (fun id hid => by simp only [decide_eq_true_eq] at hid; simp [hid]) ha.1, repL_unren ha.2 h.2⟩
theorem RB.purM (h : RB E st a w ρ I) (hJ : ∀ b c, I b = some c → J b = some c) {ids : List Nat} (h' : RB E (st.freeze ids) a w ρ J) (gs : List Nat) : ∀ (ds : List D) (ids2 : List Nat) (p : Prop) (ds' : List D) (xs : List Value), Go.Ab.purL (Go.Ab.purM st.heap gs) ds = some (ids2, p, ds') → p → FrozenBy st.heap (st.freeze ids).heap ids2 → RepL I ρ ds xs → RepL J ρ ds' xs := by
  intro ds
  induction ds with
  | nil =>
    intro ids2 p ds' xs he _ _ hx
    simp only [Go.Ab.purL, Option.some.injEq, Prod.mk.injEq] at he
    obtain ⟨_, _, rfl⟩ := he
    cases xs with
    | nil => trivial
    | cons x xs => simp [RepL] at hx
  | cons d ds ih =>
    intro ids2 p ds' xs he hp hf hx
    simp only [Go.Ab.purL] at he
    split at he
    · rename_i i1 p1 d1 i2 p2 ds2 e1 e2
      simp only [Option.some.injEq, Prod.mk.injEq] at he
      obtain ⟨rfl, rfl, rfl⟩ := he
      cases xs with
      | nil => simp [RepL] at hx
      | cons x xs =>
        refine ⟨?_, ih i2 p2 ds2 xs e2 hp.2 (fun id hi => hf id (by simp [hi])) hx.2⟩
        unfold Go.Ab.purM at e1
        split at e1
        · simp only [Option.some.injEq, Prod.mk.injEq] at e1
          obtain ⟨_, _, rfl⟩ := e1
          exact hx.1.imm hJ
        · have := pur_ok h'.mem h.rowsLen 4 d i1 p1 d1 x e1 hp.1 (fun id hi => hf id (by simp [hi])) (hx.1.imm hJ)
          exact this.mono (fun id l q => by cases q)
    · cases he
theorem getD_mem_of {gs : List Nat} {j : Nat} (h : j < gs.length) : gs.getD j 0 ∈ gs := by
  simp [List.getD, List.getElem?_eq_getElem h]
theorem getD_inj {gs : List Nat} (hnd : gs.Nodup) {i j : Nat} (hi : i < gs.length) (hj : j < gs.length) (h : gs.getD i 0 = gs.getD j 0) : i = j := by
  have q1 : gs.getD i 0 = gs[i] := by simp [List.getD, List.getElem?_eq_getElem hi]
  have q2 : gs.getD j 0 = gs[j] := by simp [List.getD, List.getElem?_eq_getElem hj]
  rw [q1, q2] at h
  have hp := List.pairwise_iff_getElem.1 hnd
  rcases Nat.lt_trichotomy i j with g | g | g
  · exact absurd h (hp i j hi hj g)
  · exact g
  · exact absurd h.symm (hp j i hj hi g)
theorem outAt_lt {outs : List (Option AObj)} {j : Nat} (h : (outAt outs j).isSome = true) : j < outs.length := by
  rcases Nat.lt_or_ge j outs.length with q | q
  · exact q
  · simp [outAt, List.getElem?_eq_none q] at h
theorem RB.callM (h : RB E st a w ρ I) {f : FuncId} {args args' ds : List D} {ids : List Nat} {p : Prop} {r : D} {ins : List AObj} {outs : List (Option AObj)} {gs : List Nat} {vs : List Value} (nid : Nat)
    (hpur : Go.Ab.purL (Go.Ab.purM st.heap gs) args = some (ids, p, args')) (hp : p) (hu : RepL I ρ args vs) (hargs : args' = D.renL (fun j => gs.getD j 0) ds) (hds : D.allL (fun j => decide (j < ins.length)) ds = true)
    (hgs : gs.length = ins.length) (hnd : gs.Nodup) (hdis : ∀ id, id ∈ ids → id ∉ gs) (hins : InsAt st.heap gs ins 0) (hok : insOk ins = true) (hnid : ∀ j, ins.length ≤ j → j < outs.length → nid + j ∉ gs) (hlen : ins.length ≤ outs.length)
    (hc : ContractM P f ins ds r outs) :
    Calls P f vs.toArray w fun e w' => ∃ v, e = .returned v ∧ Did E ((st.freeze ids).callM gs nid ins.length outs) a (r.ren (sigM gs nid ins.length)) v w' := by
  obtain ⟨J, hJ, h1⟩ := h.freeze ids
  have hpu := h.purM hJ h1 gs args ids p args' vs hpur hp (frozenBy_freeze ids) hu
  rw [hargs] at hpu
  let k := ins.length
  let ρc : Locs := fun j => if j < k then ρ (gs.getD j 0) else none
  have hat : ∀ j o, ins[j]? = some o → j < k ∧ ∃ oc, (st.freeze ids).heap (gs.getD j 0) = some oc ∧ oc.bare = (o.ren fun j => gs.getD j 0).bare ∧ oc.wr = o.wr := by
    intro j o ho
    have hj : j < ins.length := (List.getElem?_eq_some_iff.1 ho).1
    obtain ⟨oc, e1, e2⟩ := hins.get ho
    rw [Nat.zero_add] at e1
    refine ⟨hj, oc, ?_, e2, ?_⟩
    · have hn : gs.getD j 0 ∉ ids := fun q => hdis _ q (getD_mem_of (by omega))
      simp only [St.freeze]
      rw [if_neg (by simpa using hn)]
      exact e1
    · have := congrArg AObj.wr e2
      rw [show (o.ren fun j => gs.getD j 0).bare.wr = (o.ren fun j => gs.getD j 0).wr from rfl, AObj.ren_wr] at this
      exact this
  have hmem : Mem J ρc (fun j => ins[j]?) w := by
    refine ⟨fun j o ho => ?_, fun i1 o1 l1 i2 o2 l2 b g1 m1 e1 b1 g2 m2 e2 b2 => ?_, h1.mem.imm⟩
    · obtain ⟨hj, oc, e1, e2, e3⟩ := hat j o ho
      obtain ⟨l, el, hl⟩ := h1.mem.laid _ _ e1
      refine ⟨l, by simp only [ρc, hj, if_true]; exact el, laid_unren (σ := fun j => gs.getD j 0) (hl.ofBare e2) ?_⟩
      have := List.all_eq_true.1 hok o (List.mem_of_getElem? ho)
      simpa using this
    · obtain ⟨hj1, oc1, p1, p2, p3⟩ := hat i1 o1 g1
      obtain ⟨hj2, oc2, r1, r2, r3⟩ := hat i2 o2 g2
      simp only [ρc, hj1, if_true] at e1
      simp only [ρc, hj2, if_true] at e2
      have := h1.mem.apart _ _ _ _ _ _ _ p1 (p3.trans m1) e1 b1 r1 (r3.trans m2) e2 b2
      exact getD_inj hnd (by omega) (by omega) this
  have hM : ∀ b, InsBlk ins ρc b → (E.M b ∨ E.w0.heap.size ≤ b) ∧ b < w.heap.size ∧ J b = none ∧ ∃ j oc l, j < k ∧ (st.freeze ids).heap (gs.getD j 0) = some oc ∧ oc.wr = true ∧ ρ (gs.getD j 0) = some l ∧ l.blk = some b := by
    rintro b ⟨j, o, l, g1, g2, g3, g4⟩
    obtain ⟨hj, oc, e1, e2, e3⟩ := hat j o g1
    simp only [ρc, hj, if_true] at g3
    obtain ⟨l', el, hl⟩ := h1.mem.laid _ _ e1
    rw [g3] at el; cases el
    exact ⟨h1.fresh _ _ _ _ e1 (e3.trans g2) g3 g4, blk_lt hl g4, hl.mutImm (e3.trans g2) g4, j, oc, l, hj, e1, e3.trans g2, g3, g4⟩
  refine (hc w J ρc vs hmem (repL_unren (σ := fun j => gs.getD j 0) hds hpu)).mono fun e w' ⟨v, ρ', I', he, c1, c2, c3, c4, c5, c6, c7, c8⟩ => ⟨v, he, ?_⟩
  let σ := sigM gs nid k
  let K := struck gs nid k outs 0
  let ρ2 : Locs := fun id => if nid + k ≤ id ∧ id < nid + outs.length then ρ' (id - nid) else ρ id
  have hK : ∀ id, id ∉ K → ρ2 id = ρ id := by
    intro id hid
    by_cases hq : nid + k ≤ id ∧ id < nid + outs.length
    · have := struck_new (gs := gs) (nid := nid) (k := k) (os := outs) (j := 0) (i := id - nid) (by omega) (by omega)
      rw [show nid + (0 + (id - nid)) = id by omega] at this
      exact absurd this hid
    · simp only [ρ2, hq, if_false]
  have hg2 : ∀ j, j < k → ρ2 (gs.getD j 0) = ρ (gs.getD j 0) := by
    intro j hj
    have hq : ¬ (nid + k ≤ gs.getD j 0 ∧ gs.getD j 0 < nid + outs.length) := by
      intro hq
      have := hnid (gs.getD j 0 - nid) (by omega) (by omega)
      rw [show nid + (gs.getD j 0 - nid) = gs.getD j 0 by omega] at this
      exact this (getD_mem_of (by omega))
    simp only [ρ2, hq, if_false]
  have hσ : ∀ j l, ρ' j = some l → ρ2 (σ j) = some l := by
    intro j l hl
    have hlive := c5 j l hl
    have hjo := outAt_lt hlive
    by_cases hj : j < k
    · have e1 : σ j = gs.getD j 0 := if_pos hj
      rw [e1, hg2 j hj]
      have := c8 j hj hlive
      rw [this] at hl
      simpa [ρc, hj] using hl
    · have e1 : σ j = nid + j := if_neg hj
      rw [e1]
      have hq : nid + k ≤ nid + j ∧ nid + j < nid + outs.length := by omega
      simp only [ρ2, hq, and_self, if_true, Nat.add_sub_cancel_left]
      exact hl
  have notIns : ∀ id o0 l b, id ∉ K → (∀ i, (outAt outs i).isSome = true → id ≠ σ (0 + i)) → (st.freeze ids).heap id = some o0 → ρ id = some l → l.blk = some b → ¬ InsBlk ins ρc b := by
    intro id o0 l b hid hne ho hl hb hi
    obtain ⟨_, _, hn, j, oc, l', hj, g1, g2, g3, g4⟩ := hM b hi
    have hgne : gs.getD j 0 ≠ id := by
      intro e
      cases hq : outAt outs j with
      | some o => exact hne j (by simp [hq]) (by rw [Nat.zero_add]; exact (e.symm.trans (if_pos hj).symm))
      | none =>
        have := struck_gone (gs := gs) (nid := nid) (k := k) (os := outs) (j := 0) (i := j) (by omega) (by omega) hq
        rw [Nat.zero_add, e] at this
        exact hid this
    obtain ⟨l0, el, hlaid⟩ := h1.mem.laid _ _ ho
    rw [hl] at el; cases el
    cases hw : o0.wr with
    | true => exact hgne (h1.mem.apart _ _ _ _ _ _ _ g1 g2 g3 g4 ho hw hl hb)
    | false =>
      obtain ⟨c, hc⟩ := hlaid.immImm hw hb
      rw [hn] at hc; cases hc
  have hlt : ∀ id o0 l b, (st.freeze ids).heap id = some o0 → ρ id = some l → l.blk = some b → b < w.heap.size := by
    intro id o0 l b ho hl hb
    obtain ⟨l0, el, hlaid⟩ := h1.mem.laid _ _ ho
    rw [hl] at el; cases el
    exact blk_lt hlaid hb
  have outLoc : ∀ i o l, outAt outs i = some o → ρ2 (σ (0 + i)) = some l → ρ' i = some l := by
    intro i o l g1 g2
    obtain ⟨l', el, _⟩ := c4.laid i o g1
    have := hσ i l' el
    rw [Nat.zero_add, this] at g2
    rw [el]; exact g2
  refine ⟨ρ2, I', ⟨h1.size, h1.defers, fun t d hd => ?_, ⟨fun id o' ho' => ?_, fun i1 o1 l1 i2 o2 l2 b g1 m1 e1 b1 g2 m2 e2 b2 => ?_, c4.imm⟩, fun b c q => c1 b c (h1.i0 b c q), fun b c q => ?_, h1.ext.trans c6 (fun x hx => (hM x hx).1), fun id o' l b ho' hw hl hb => ?_, fun id o' ho' hpin => ?_, fun m hm => ?_⟩, c3.ren hσ⟩
  · obtain ⟨d0, e0, hr⟩ := killsS_some hd
    obtain ⟨q1, q2⟩ := h1.slots t d0 e0
    exact ⟨q1, hr hK (q2.imm c1)⟩
  · rcases adoptM_cases ho' with ⟨i, o, g1, g2, g3⟩ | ⟨g1, g2⟩
    · obtain ⟨l, el, hl⟩ := c4.laid i o g1
      refine ⟨l, by rw [g2, Nat.zero_add]; exact hσ i l el, ?_⟩
      rw [g3]; exact (hl.renTo hσ).pinAny _
    · obtain ⟨q0, o0, e0, e1, e2, hd⟩ := killsH_some g2
      obtain ⟨l, el, hl⟩ := h1.mem.laid id o0 e0
      refine ⟨l, (hK id q0).trans el, ?_⟩
      have hni := fun b hb => notIns id o0 l b q0 g1 e0 el hb
      refine (hd hK (fun b hb => c6.block b (blk_lt hl hb) (hni b hb)) hl).kept c1 (fun _ _ => rfl) (fun b hb hm hn => ?_) (fun d x q => q.imm c1)
      cases hq : I' b with
      | none => rfl
      | some c =>
        rcases c2 b c hq with q | q | q
        · rw [hn] at q; cases q
        · exact absurd q (hni b hb)
        · have := blk_lt hl hb; omega
  · rcases adoptM_cases g1 with ⟨j1, q1, p1, p2, p3⟩ | ⟨p1, p2⟩ <;> rcases adoptM_cases g2 with ⟨j2, q2, r1, r2, r3⟩ | ⟨r1, r2⟩
    · rw [p2] at e1
      rw [r2] at e2
      have w1 : q1.wr = true := by rw [p3] at m1; rw [← m1]; exact (AObj.ren_wr (σ := σ)).symm
      have w2 : q2.wr = true := by rw [r3] at m2; rw [← m2]; exact (AObj.ren_wr (σ := σ)).symm
      have := c4.apart _ _ _ _ _ _ _ p1 w1 (outLoc _ _ _ p1 e1) b1 r1 w2 (outLoc _ _ _ r1 e2) b2
      rw [p2, r2, this]
    · exfalso
      rw [p2] at e1
      have w1 : q1.wr = true := by rw [p3] at m1; rw [← m1]; exact (AObj.ren_wr (σ := σ)).symm
      obtain ⟨z0, o0, z1, z2, z3, _⟩ := killsH_some r2
      rw [hK _ z0] at e2
      rcases c7 _ _ _ _ p1 w1 (outLoc _ _ _ p1 e1) b1 with q | q
      · exact notIns _ _ _ _ z0 r1 z1 e2 b2 q
      · have := hlt _ _ _ _ z1 e2 b2; omega
    · exfalso
      rw [r2] at e2
      have w2 : q2.wr = true := by rw [r3] at m2; rw [← m2]; exact (AObj.ren_wr (σ := σ)).symm
      obtain ⟨z0, o0, z1, z2, z3, _⟩ := killsH_some p2
      rw [hK _ z0] at e1
      rcases c7 _ _ _ _ r1 w2 (outLoc _ _ _ r1 e2) b2 with q | q
      · exact notIns _ _ _ _ z0 p1 z1 e1 b1 q
      · have := hlt _ _ _ _ z1 e1 b1; omega
    · obtain ⟨z0, o0, z1, z2, z3, _⟩ := killsH_some p2
      obtain ⟨y0, o0', y1, y2, y3, _⟩ := killsH_some r2
      rw [hK _ z0] at e1
      rw [hK _ y0] at e2
      exact h1.mem.apart _ _ _ _ _ _ _ z1 (z2 ▸ m1) e1 b1 y1 (y2 ▸ m2) e2 b2
  · rcases c2 b c q with q | q | q
    · exact h1.i1 b c q
    · exact .inr (hM b q).1
    · exact .inr (.inr (Nat.le_trans h1.ext.size q))
  · rcases adoptM_cases ho' with ⟨i, o, g1, g2, g3⟩ | ⟨g1, g2⟩
    · rw [g2] at hl
      have w1 : o.wr = true := by rw [g3] at hw; rw [← hw]; exact (AObj.ren_wr (σ := σ)).symm
      rcases c7 _ _ _ _ g1 w1 (outLoc _ _ _ g1 hl) hb with q | q
      · exact (hM b q).1
      · exact .inr (Nat.le_trans h1.ext.size q)
    · obtain ⟨z0, o0, z1, z2, z3, _⟩ := killsH_some g2
      rw [hK _ z0] at hl
      exact h1.fresh _ _ _ _ z1 (z2 ▸ hw) hl hb
  · rcases adoptM_cases ho' with ⟨i, o, g1, g2, g3⟩ | ⟨g1, g2⟩
    · rw [g3] at hpin
      simp only [Bool.and_eq_true, decide_eq_true_eq, Nat.zero_add] at hpin
      obtain ⟨hi, hpa⟩ := hpin
      rw [Nat.zero_add] at g2
      have e1 : σ i = gs.getD i 0 := if_pos hi
      rw [g2]
      show ρ2 (σ i) = E.pin (σ i)
      rw [e1, hg2 i hi]
      have hpa' : pinAt (st.freeze ids).heap (gs.getD i 0) = true := e1 ▸ hpa
      unfold pinAt at hpa'
      split at hpa'
      · rename_i oc hoc
        exact h1.pins _ oc hoc hpa'
      · cases hpa'
    · obtain ⟨z0, o0, z1, z2, z3, _⟩ := killsH_some g2
      rw [hK _ z0]
      exact h1.pins _ _ z1 (z3 ▸ hpin)
  · have hmi := h1.mp m hm
    refine hmi.keep (c6.block _ hmi.lt fun hb => ?_)
    obtain ⟨_, _, _, j, oc, l, _, g2, _, g4, g5⟩ := hM _ hb
    obtain ⟨l', el, hl⟩ := h1.mem.laid _ _ g2
    rw [g4] at el; cases el
    exact hl.notMap g5 hmi rfl
end
def St.want (st : St) (ops : Array Oper) (o : Oper) : Option Bool :=
  match o.guard with
  | none => some true
  | some (j, b) => match (ops[j]?).bind (·.dst) with
    | some t => match st.slots t with
      | some (.v (.bool x)) => some (x == b)
      | some (.v (.tuple _)) => some false
      | _ => none
    | none => none
def St.callOf (st : St) : Op → Option (FuncId × List D)
  | .call c => match c.callee with
    | .value fo => match st.ev fo, st.evL c.args.toList with
      | some fd, some args => match fnOf fd with
        | some (f, first, caps) => some (f, first ++ (args ++ caps))
        | none => none
      | _, _ => none
    | _ => none
  | _ => none
def CallVC (P : Program) (f : FuncId) (args : List D) (pr : PurR (List D)) (st : St) (nid : Nat) (K : St → D → Prop) : Prop :=
  FnOk P f ∧ ((∃ ids p ds, pr = some (ids, p, ds) ∧ p ∧ ((∃ r objs, Contract P f ds r objs ∧ objsOk objs 0 = true ∧ K ((st.freeze ids).adoptL nid objs 0) (r.ren (nid + ·))) ∨ (∃ r, Contract P f ds r [] ∧ r.scal = true ∧ K st r) ∨
      ∃ r objs, Contract P f ds r objs ∧ objsOk objs 0 = true ∧ r.noI = true ∧ objs.all AObj.noI = true ∧ K (st.adoptL nid objs 0) (r.ren (nid + ·)))) ∨
    ∃ gs ins ds r outs ids p, purL (purM st.heap gs) args = some (ids, p, D.renL (fun j => gs.getD j 0) ds) ∧ p ∧ D.allL (fun j => decide (j < ins.length)) ds = true ∧ gs.length = ins.length ∧ gs.Nodup ∧ (∀ id, id ∈ ids → id ∉ gs) ∧ InsAt st.heap gs ins 0 ∧ insOk ins = true ∧
      (∀ j, ins.length ≤ j → j < outs.length → nid + j ∉ gs) ∧ ins.length ≤ outs.length ∧ ContractM P f ins ds r outs ∧ K ((st.freeze ids).callM gs nid ins.length outs) (r.ren (sigM gs nid ins.length)))
def St.nilCmp (tt : TypeId → Option TI) (st : St) : Op → Option (Prop × Bool)
  | .binOp op T x (.const (.slice none 0 0)) _ => match (tt T).map TI.und, st.ev x with
    | some (.slice _), some (.sl _ rows) => match op with
      | .eql => some (rows = [], false)
      | .neq => some (rows = [], true)
      | _ => none
    | some (.slice _), some (.own _ _ len) => match op with
      | .eql => some (len = 0, false)
      | .neq => some (len = 0, true)
      | _ => none
    | _, _ => none
  | _ => none
def callK (dst : Option Tmp) (F : St → Prop) (st1 : St) (d : D) : Prop := st1.fits dst = true ∧ F (st1.put dst d)
def aops (P : Program) (tt : TypeId → Option TI) (ops : Array Oper) (K : St → Prop) : Nat → List Oper → St → Prop
  | _, [], st => K st
  | id, o :: rest, st => match st.want ops o with
    | some false => st.fits o.dst = true ∧ aops P tt ops K (id + 1) rest (st.put o.dst (.v (.tuple #[])))
    | some true => match exec1 tt id st o.op with
      | some (p, st1, d) => p ∧ st1.fits o.dst = true ∧ aops P tt ops K (id + 1) rest (st1.put o.dst d)
      | none => match st.callOf o.op with
        | some (f, args) => CallVC P f args (purL (pur st.heap 4) args) st (id + 100000) (callK o.dst (aops P tt ops K (id + 1) rest))
        | none => match st.nilCmp tt o.op with
          | some (p, neg) => ∀ b : Bool, (b = true → p) → st.fits o.dst = true ∧ aops P tt ops K (id + 1) rest (st.put o.dst (.v (.bool (b != neg))))
          | none => match newMapOf tt o.op with
            | some kd => ∀ b : Nat, st.fits o.dst = true ∧ aops P tt ops K (id + 1) rest (({ st with mp := some ⟨b, kd, []⟩ } : St).put o.dst (.v (.map (some b))))
            | none => False
    | none => False
theorem aops_nil (P : Program) (tt : TypeId → Option TI) (ops : Array Oper) (K : St → Prop) (id : Nat) (st : St) : aops P tt ops K id [] st = K st := rfl
inductive SRes where
  | go (p : Prop) (s : St)
  | call (f : FuncId) (args : List D)
  | nilc (p : Prop) (neg : Bool)
  | newm (kd : MKind)
def stepR (tt : TypeId → Option TI) (ops : Array Oper) (id : Nat) (st : St) (o : Oper) : Option SRes := match st.want ops o with
  | some false => some (.go (st.fits o.dst = true) (st.put o.dst (.v (.tuple #[]))))
  | some true => match exec1 tt id st o.op with
    | some (p, st1, d) => some (.go (p ∧ st1.fits o.dst = true) (st1.put o.dst d))
    | none => match st.callOf o.op with
      | some (f, args) => some (.call f args)
      | none => match st.nilCmp tt o.op with
        | some (p, neg) => some (.nilc p neg)
        | none => match newMapOf tt o.op with
          | some kd => some (.newm kd)
          | none => none
  | none => none
def runR (P : Program) (st : St) (dst : Option Tmp) (nid : Nat) (F : St → Prop) : Option SRes → Prop
  | some (.go p s) => p ∧ F s
  | some (.call f args) => CallVC P f args (purL (pur st.heap 4) args) st nid (callK dst F)
  | some (.nilc p neg) => ∀ b : Bool, (b = true → p) → st.fits dst = true ∧ F (st.put dst (.v (.bool (b != neg))))
  | some (.newm kd) => ∀ b : Nat, st.fits dst = true ∧ F (({ st with mp := some ⟨b, kd, []⟩ } : St).put dst (.v (.map (some b))))
  | none => False
theorem runR_newm (P : Program) (st : St) (dst : Option Tmp) (nid : Nat) (F : St → Prop) (kd : MKind) : runR P st dst nid F (some (.newm kd)) = (∀ b : Nat, st.fits dst = true ∧ F (({ st with mp := some ⟨b, kd, []⟩ } : St).put dst (.v (.map (some b))))) := rfl
theorem runR_go (P : Program) (st : St) (dst : Option Tmp) (nid : Nat) (F : St → Prop) (p : Prop) (s : St) : runR P st dst nid F (some (.go p s)) = (p ∧ F s) := rfl
theorem runR_call (P : Program) (st : St) (dst : Option Tmp) (nid : Nat) (F : St → Prop) (f : FuncId) (args : List D) : runR P st dst nid F (some (.call f args)) = CallVC P f args (purL (pur st.heap 4) args) st nid (callK dst F) := rfl
theorem runR_nilc (P : Program) (st : St) (dst : Option Tmp) (nid : Nat) (F : St → Prop) (p : Prop) (neg : Bool) : runR P st dst nid F (some (.nilc p neg)) = (∀ b : Bool, (b = true → p) → st.fits dst = true ∧ F (st.put dst (.v (.bool (b != neg))))) := rfl
theorem aops_cons (P : Program) (tt : TypeId → Option TI) (ops : Array Oper) (K : St → Prop) (id : Nat) (o : Oper) (rest : List Oper) (st : St) : aops P tt ops K id (o :: rest) st = runR P st o.dst (id + 100000) (aops P tt ops K (id + 1) rest) (stepR tt ops id st o) := by
  simp only [aops, stepR]
  split
  · rfl
  · split
    · simp only [runR, and_assoc]
    · split
      · rfl
      · split
        · rfl
        · split <;> rfl
  · rfl
section
variable {P : Program} {E : Ent} {st : St} {a : Act} {w w' : World} {ρ : Locs} {I J : Imm} {tt : TypeId → Option TI}
theorem RB.want (h : RB E st a w ρ I) {ops : Array Oper} {o : Oper} {b : Bool} (hw : st.want ops o = some b) : Region.wanted o (yielded ops a.tmps) = b := by
  unfold St.want at hw
  unfold Region.wanted
  split at hw
  · rename_i hg
    simp only [Option.some.injEq] at hw
    subst hw
    simp [hg]
  · rename_i j wb hg
    split at hw
    · rename_i t ht
      split at hw
      · rename_i x hx
        simp only [Option.some.injEq] at hw
        obtain ⟨q1, q2⟩ := h.slots t _ hx
        have e := rep_v_inv q2
        have hlt : t < a.tmps.size := by rw [h.size]; exact q1
        have e2 : a.tmps[t]? = some (.bool x) := by
          rw [Array.getElem?_eq_getElem hlt]
          simp only [Array.getD_eq_getD_getElem?, Array.getElem?_eq_getElem hlt, Option.getD_some] at e
          rw [e]
        simp only [hg, yielded, ht, Option.bind_some, e2]
        rw [← hw]
        cases x <;> cases wb <;> rfl
      · rename_i x hx
        simp only [Option.some.injEq] at hw
        obtain ⟨q1, q2⟩ := h.slots t _ hx
        have e := rep_v_inv q2
        have hlt : t < a.tmps.size := by rw [h.size]; exact q1
        have e2 : a.tmps[t]? = some (.tuple x) := by
          rw [Array.getElem?_eq_getElem hlt]
          simp only [Array.getD_eq_getD_getElem?, Array.getElem?_eq_getElem hlt, Option.getD_some] at e
          rw [e]
        simp only [hg, yielded, ht, Option.bind_some, e2]
        rw [← hw]
        rfl
      · cases hw
    · cases hw
theorem run_callFunc {f : FuncId} {args : Array Value} (hf : FnOk P f) : (callFunc f args).run P w = .ok (.enter f args) w := by
  obtain ⟨fn, h1, h2, h3⟩ := hf
  simp only [callFunc, Sem.run_bind, run_program, Result.andThen_ok, h1]
  simp [h2, h3]
theorem fnOf_run (hI : True) {fd : D} {f : FuncId} {first caps : List D} {v : Value} (hf : fnOf fd = some (f, first, caps)) (hv : Rep I ρ fd v) : ∃ fvs cvs : List Value, v = .func (.func f) fvs.toArray cvs.toArray ∧ RepL I ρ first fvs ∧ RepL I ρ caps cvs := by
  unfold fnOf at hf
  split at hf
  · rename_i f' fa fb
    split at hf
    · rename_i he
      simp only [Option.some.injEq, Prod.mk.injEq] at hf
      obtain ⟨rfl, rfl, rfl⟩ := hf
      have h1 : fa = #[] := by simpa using he.1
      have h2 : fb = #[] := by simpa using he.2
      subst h1 h2
      exact ⟨[], [], rep_v_inv hv, trivial, trivial⟩
    · cases hf
  · simp only [Option.some.injEq, Prod.mk.injEq] at hf
    obtain ⟨rfl, rfl, rfl⟩ := hf
    cases hv with
    | fn _ _ _ _ fs vs hn hl hh =>
      refine ⟨fs.toList, vs.toList, by simp, ?_⟩
      have key : ∀ (cs : List D) (xs : List Value), cs.length = xs.length → (∀ (i : Nat) (d : D) (x : Value), cs[i]? = some d → xs[i]? = some x → Rep I ρ d x) → RepL I ρ cs xs := by
        intro cs
        induction cs with
        | nil => intro xs hx _; cases xs with
          | nil => trivial
          | cons _ _ => simp at hx
        | cons c cs ih => intro xs hx hh; cases xs with
          | nil => simp at hx
          | cons x xs => exact ⟨hh 0 c x (by simp) (by simp), ih xs (by simpa using hx) fun i d y h1 h2 => hh (i + 1) d y (by simpa using h1) (by simpa using h2)⟩
      simp only [Array.size_append] at hl
      refine ⟨key _ _ (by simp; omega) fun i d x h1 h2 => ?_, key _ _ (by simp; omega) fun i d x h1 h2 => ?_⟩
      · rw [List.getElem?_take] at h1
        split at h1
        · refine hh i d x h1 ?_
          rw [Array.getElem?_append, if_pos (by omega)]
          simpa using h2
        · cases h1
      · rw [List.getElem?_drop] at h1
        refine hh _ d x h1 ?_
        rw [Array.getElem?_append, if_neg (by omega)]
        rw [← hn, Nat.add_sub_cancel_left]
        simpa using h2
  · cases hf
theorem RepL.append : ∀ {ds1 ds2 : List D} {xs1 xs2 : List Value}, RepL I ρ ds1 xs1 → RepL I ρ ds2 xs2 → RepL I ρ (ds1 ++ ds2) (xs1 ++ xs2)
  | [], _, [], _, _, h => h
  | d :: ds, _, x :: xs, _, h, h' => ⟨h.1, RepL.append h.2 h'⟩
  | [], _, _ :: _, _, h, _ => by simp [RepL] at h
  | _ :: _, _, [], _, h, _ => by simp [RepL] at h
theorem RB.callOf (h : RB E st a w ρ I) {o : Oper} {f : FuncId} {args : List D} (hc : st.callOf o.op = some (f, args)) (hf : FnOk P f) :
    ∃ vs : List Value, (execOp a.eval o).run P w = .ok (.enter f vs.toArray) w ∧ RepL I ρ args vs := by
  unfold St.callOf at hc
  split at hc
  · rename_i c ho
    split at hc
    · rename_i fo hcal
      split at hc
      · rename_i fd as hfd has
        split at hc
        · rename_i f' first caps hfn
          simp only [Option.some.injEq, Prod.mk.injEq] at hc
          obtain ⟨rfl, rfl⟩ := hc
          obtain ⟨fvs, cvs, hv, hfv, hcv⟩ := fnOf_run trivial hfn (h.ev hfd)
          refine ⟨fvs ++ (c.args.toList.map a.eval ++ cvs), ?_, hfv.append ((h.evL has).append hcv)⟩
          unfold execOp
          simp only [ho, Sem.run_bind, resolve, hcal, hv, Deferred.ofValue, Sem.run_pure, Result.andThen_ok, invoke]
          rw [run_callFunc hf]
          congr 2
          apply Array.ext'
          simp
        · cases hc
      · cases hc
    · cases hc
  · cases hc
theorem RB.nilCmp (ht : TTok P tt) (h : RB E st a w ρ I) {o : Oper} {p : Prop} {neg : Bool} (hn : st.nilCmp tt o.op = some (p, neg)) :
    ∃ b : Bool, (b = true → p) ∧ (execOp a.eval o).run P w = .ok (.value (.bool (b != neg))) w := by
  unfold St.nilCmp at hn
  split at hn
  · rename_i op T x yt ho
    have key : ∀ (b : Option Addr) (n c : Nat), a.eval x = .slice b n c → (∃ e, P.underlying T = some (.slice e)) → (op = .eql ∧ neg = false ∨ op = .neq ∧ neg = true) → (execOp a.eval o).run P w = .ok (.value (.bool (b.isNone != neg))) w := by
      rintro b n c hx ⟨e, he⟩ hop
      unfold execOp
      rw [ho]
      simp only [Sem.run_bind, Act.eval] at hx ⊢
      rw [hx]
      rcases hop with ⟨rfl, rfl⟩ | ⟨rfl, rfl⟩
      · rw [run_eqGuard_plain (by simp) (by simp)]
        simp [run_eql_sl he]
      · rw [run_eqGuard_plain (by simp) (by simp)]
        simp [run_neq_sl he]
    have hund : ∀ e, (tt T).map TI.und = some (.slice e) → P.underlying T = some (.slice e) := fun e he => slice_und ht he
    split at hn
    · rename_i e full rows hT hx
      obtain ⟨ad, cap, hv, _, _, hr⟩ := rows_of_sl h.mem.imm (h.ev hx)
      have hb : ad.isNone = true → rows = [] := fun q => by
        refine Classical.byContradiction fun hne => ?_
        obtain ⟨b, o', sz, e1, _⟩ := hr hne
        rw [e1] at q; cases q
      split at hn <;> simp only [Option.some.injEq, Prod.mk.injEq, reduceCtorEq] at hn
      · obtain ⟨rfl, rfl⟩ := hn
        exact ⟨_, hb, key _ _ _ hv ⟨e, hund e hT⟩ (.inl ⟨rfl, rfl⟩)⟩
      · obtain ⟨rfl, rfl⟩ := hn
        exact ⟨_, hb, key _ _ _ hv ⟨e, hund e hT⟩ (.inr ⟨rfl, rfl⟩)⟩
    · rename_i e id off len hT hx
      have hrep := h.ev hx
      generalize hv : a.eval x = v at hrep
      cases hrep with
      | own _ _ _ _ l ad hl hcap ha =>
        have hb : ad.isNone = true → len = 0 := fun q => by
          rcases ha with ha | ⟨b, _, e1⟩
          · omega
          · rw [e1] at q; cases q
        split at hn <;> simp only [Option.some.injEq, Prod.mk.injEq, reduceCtorEq] at hn
        · obtain ⟨rfl, rfl⟩ := hn
          exact ⟨_, hb, key _ _ _ hv ⟨e, hund e hT⟩ (.inl ⟨rfl, rfl⟩)⟩
        · obtain ⟨rfl, rfl⟩ := hn
          exact ⟨_, hb, key _ _ _ hv ⟨e, hund e hT⟩ (.inr ⟨rfl, rfl⟩)⟩
    · cases hn
  · cases hn
theorem wpOps_of_aops (ht : TTok P tt) {ops : Array Oper} {K : St → Prop} {Q : Exit → Act → World → Prop} (hK : ∀ st' a' w', K st' → R E st' a' w' → Q .normal a' w') :
    ∀ (l : List Oper) (k id : Nat) (st : St) (a : Act) (w : World), ops.toList.drop k = l → aops P tt ops K id l st → R E st a w → wpOps P ops Q ((List.range ops.size).drop k) a w
  | [], k, id, st, a, w, hl, hop, hR => by
    have : ops.size ≤ k := by have := congrArg List.length hl; simp at this; omega
    rw [List.drop_of_length_le (by simpa using this)]
    exact hK st a w hop hR
  | o :: rest, k, id, st, a, w, hl, hop, hR => by
    have hk : k < ops.size := by have := congrArg List.length hl; simp at this; omega
    have hok : ops[k]? = some o := by
      have := congrArg (·[0]?) hl
      simpa using this
    have hrest : ops.toList.drop (k + 1) = rest := by
      rw [← List.drop_drop, hl]; rfl
    have hrange : (List.range ops.size).drop k = k :: (List.range ops.size).drop (k + 1) := by
      rw [List.drop_eq_getElem_cons (by simpa using hk)]; simp
    rw [hrange]
    simp only [wpOps, hok]
    obtain ⟨ρ, I, h⟩ := hR
    simp only [aops] at hop
    split at hop
    · rename_i hw
      rw [h.want hw]
      simp only [Bool.false_eq_true, if_false]
      exact wpOps_of_aops ht hK rest (k + 1) (id + 1) _ _ _ hrest hop.2 ⟨ρ, I, h.put hop.1 (.v _ _)⟩
    · rename_i hw
      rw [h.want hw]
      simp only [if_true]
      left
      unfold Oper.wp
      split at hop
      · rename_i p st1 d he
        obtain ⟨nx, v, w', r1, r2, ρ', J, r3, r4⟩ := h.exec1 ht he hop.1
        have hnext := wpOps_of_aops ht hK rest (k + 1) (id + 1) _ (a.put o.dst v) w' hrest hop.2.2 ⟨ρ', J, r3.put hop.2.1 r4⟩
        rw [r1]
        rcases r2 with rfl | ⟨rfl, rfl⟩
        · exact hnext
        · exact hnext
      · split at hop
        · rename_i f args hc
          obtain ⟨hfn, hvc⟩ := hop
          obtain ⟨vs, r1, r2⟩ := h.callOf hc hfn
          rw [r1, Oper.upon_enter]
          rcases hvc with ⟨ids, p, ds, hpur, hp, ⟨r, objs, c1, c2, c3⟩ | ⟨r, c1, c2, c3⟩ | ⟨r, objs, c1, c2, c4, c5, c3⟩⟩ | ⟨gs, ins, ds, r, outs, ids, p, q1, q2, q3, q4, q5, q6, q7, q8, q9, q10, q11, c3⟩
          · refine (h.callPure (id + 100000) hpur hp r2 c1 c2).mono fun e w' ⟨v, he, ρ', J, d1, d2⟩ => ?_
            subst he
            exact wpOps_of_aops ht hK rest (k + 1) (id + 1) _ _ _ hrest c3.2 ⟨ρ', J, d1.put c3.1 d2⟩
          · refine (h.callScal hpur hp r2 c1 c2).mono fun e w' ⟨v, he, ρ', J, d1, d2⟩ => ?_
            subst he
            exact wpOps_of_aops ht hK rest (k + 1) (id + 1) _ _ _ hrest c3.2 ⟨ρ', J, d1.put c3.1 d2⟩
          · refine (h.callOwn (id + 100000) hpur hp r2 c1 c2 c4 c5).mono fun e w' ⟨v, he, ρ', J, d1, d2⟩ => ?_
            subst he
            exact wpOps_of_aops ht hK rest (k + 1) (id + 1) _ _ _ hrest c3.2 ⟨ρ', J, d1.put c3.1 d2⟩
          · refine (h.callM (id + 100000) q1 q2 r2 rfl q3 q4 q5 q6 q7 q8 q9 q10 q11).mono fun e w' ⟨v, he, ρ', J, d1, d2⟩ => ?_
            subst he
            exact wpOps_of_aops ht hK rest (k + 1) (id + 1) _ _ _ hrest c3.2 ⟨ρ', J, d1.put c3.1 d2⟩
        · split at hop
          · rename_i p neg hn
            obtain ⟨b, hb, hrun⟩ := h.nilCmp ht hn
            have := hop b hb
            rw [hrun]
            exact wpOps_of_aops ht hK rest (k + 1) (id + 1) _ _ _ hrest this.2 ⟨ρ, I, h.put this.1 (.v _ _)⟩
          · split at hop
            · rename_i kd hn
              have hop := hop w.heap.size
              have hrun : (execOp a.eval o).run P w = .ok (.value (.map (some w.heap.size))) (w.alloc (.map #[] 0)) := by
                unfold newMapOf at hn
                split at hn
                · rename_i T ho
                  unfold execOp
                  rw [ho]
                  rfl
                · cases hn
              rw [hrun]
              exact wpOps_of_aops ht hK rest (k + 1) (id + 1) _ _ _ hrest hop.2 ⟨ρ, I, RB.put (h.mapMade kd) hop.1 (.v _ _)⟩
            · exact hop.elim
    · exact hop.elim
end
def AWP (P : Program) (E : Ent) (c : Code) (Q : Exit → St → Prop) (st : St) : Prop :=
  ∀ a w, R E st a w → c.wp P (fun e a' w' => ∃ st', Q e st' ∧ R E st' a' w') a w
def thenA (P : Program) (E : Ent) (y : Code) (Q : Exit → St → Prop) : Exit → St → Prop
  | .normal, st => AWP P E y Q st
  | e, st => Q e st
def blockA (id : Nat) (Q : Exit → St → Prop) : Exit → St → Prop
  | .exit id', st => if id' = id then Q .normal st else Q (.exit id') st
  | e, st => Q e st
structure St.le (st' st : St) : Prop where
  n : st'.n = st.n
  slots : ∀ t d, st'.slots t = some d → st.slots t = some d
  heap : ∀ id o, st'.heap id = some o → st.heap id = some o
  mp : ∀ m, st'.mp = some m → st.mp = some m
section
variable {P : Program} {E : Ent} {st : St} {tt : TypeId → Option TI} {Q : Exit → St → Prop}
theorem R.le {st' : St} {a : Act} {w : World} (h : R E st a w) (hl : st'.le st) : R E st' a w := by
  obtain ⟨ρ, I, h⟩ := h
  exact ⟨ρ, I, h.weaken hl.n hl.slots hl.heap hl.mp⟩
theorem awp_le {c : Code} {st' : St} (h : AWP P E c Q st') (hl : st'.le st) : AWP P E c Q st := fun a w hR => h a w (hR.le hl)
theorem awp_skip (h : Q .normal st) : AWP P E .skip Q st := fun a w hR => wp_skip ⟨st, h, hR⟩
theorem awp_label {l : Nat} (h : Q .normal st) : AWP P E (.label l) Q st := fun a w hR => wp_label ⟨st, h, hR⟩
theorem awp_exit {id : Nat} (h : Q (.exit id) st) : AWP P E (.exit id) Q st := fun a w hR => wp_exit ⟨st, h, hR⟩
theorem awp_ret (h : Q .ret st) : AWP P E .ret Q st := fun a w hR => wp_ret ⟨st, h, hR⟩
theorem awp_seq {x y : Code} (h : AWP P E x (thenA P E y Q) st) : AWP P E (.seq x y) Q st := by
  intro a w hR
  refine wp_seq (wp_mono (h a w hR) fun e a' w' ⟨st', q, r⟩ => ?_)
  cases e with
  | normal => exact q a' w' r
  | _ => exact ⟨st', q, r⟩
theorem awp_cond {c : Operand} {x y : Code} {t : Bool} (hc : st.ev c = some (.v (.bool t))) (h1 : t = true → AWP P E x Q st) (h2 : t = false → AWP P E y Q st) : AWP P E (.cond c x y) Q st := by
  intro a w hR
  have he : a.eval c = .bool t := by
    obtain ⟨ρ, I, h⟩ := hR
    exact rep_v_inv (h.ev hc)
  exact wp_cond_split he (fun q => h1 q a w hR) (fun q => h2 q a w hR)
theorem awp_block {id : Nat} {c : Code} (h : AWP P E c (blockA id Q) st) : AWP P E (.block id c) Q st := by
  intro a w hR
  refine wp_block (wp_mono (h a w hR) fun e a' w' ⟨st', q, r⟩ => ?_)
  cases e with
  | exit id' =>
    simp only [blockA] at q
    simp only [Exit.inBlock]
    split at q
    · rename_i e; rw [if_pos e]; exact ⟨st', q, r⟩
    · rename_i e; rw [if_neg e]; exact ⟨st', q, r⟩
  | _ => exact ⟨st', q, r⟩
theorem wp_loop_x {X : Type} {c : Code} {Q : Exit → Act → World → Prop} (I : X → Act → World → Prop) (μ : X → Nat) (round : ∀ x a w, I x a w → c.wp P (Exit.then (fun a' w' => ∃ x', I x' a' w' ∧ μ x' < μ x) Q) a w) (x : X) (a : Act) (w : World) (h : I x a w) :
    (Code.loop c).wp P Q a w := by
  intro b k cs
  have key : ∀ n x a w, μ x = n → I x a w → ∃ e a' w', Q e a' w' ∧ Arrives P (lone (b.at a (.code c :: .inLoop c :: k)) cs w) b k cs e a' w' := by
    intro n
    induction n using Nat.strongRecOn with
    | _ n ih =>
      intro x a w hn hI
      obtain ⟨e, a₁, w₁, hq, harr⟩ := round x a w hI b (.inLoop c :: k) cs
      cases e with
      | normal =>
        obtain ⟨x₁, hI₁, hlt⟩ := hq
        obtain ⟨e₂, a₂, w₂, hq₂, harr₂⟩ := ih (μ x₁) (hn ▸ hlt) x₁ a₁ w₁ rfl hI₁
        exact ⟨e₂, a₂, w₂, hq₂, .of_steps (Steps.trans harr (.one step_inLoop)) harr₂⟩
      | exit id => exact ⟨_, a₁, w₁, hq, .pass (x := .inLoop c) rfl (fun _ _ => .inl (by simp)) harr⟩
      | goto l => exact ⟨_, a₁, w₁, hq, .pass (x := .inLoop c) rfl (fun _ _ => .inl (by simp)) harr⟩
      | ret => exact ⟨_, a₁, w₁, hq, .pass (x := .inLoop c) rfl (fun _ _ => .inl (by simp)) harr⟩
      | panic ch => exact ⟨_, a₁, w₁, hq, .pass (x := .inLoop c) rfl (fun _ _ => .inl (by simp)) harr⟩
      | outgrown => exact ⟨_, a₁, w₁, hq, .pass (x := .inLoop c) rfl (fun _ _ => .inl (by simp)) harr⟩
  obtain ⟨e, a', w', hq, harr⟩ := key _ x a w rfl h
  exact ⟨e, a', w', hq, .of_steps (.one step_loop) harr⟩
def loopA {X : Type} (T : X → St) (Inv : X → Prop) (μ : X → Nat) (x : X) (Q : Exit → St → Prop) : Exit → St → Prop
  | .normal, st => ∃ x', Inv x' ∧ μ x' < μ x ∧ (T x').le st
  | e, st => Q e st
theorem awp_loop {X : Type} {c : Code} (T : X → St) (Inv : X → Prop) (μ : X → Nat) (x0 : X) (h0 : Inv x0) (hle : (T x0).le st) (round : ∀ x, Inv x → AWP P E c (loopA T Inv μ x Q) (T x)) : AWP P E (.loop c) Q st := by
  intro a w hR
  refine wp_loop_x (fun x a w => Inv x ∧ R E (T x) a w) μ (fun x a w ⟨hi, hr⟩ => wp_mono (round x hi a w hr) fun e a' w' ⟨st', q, r⟩ => ?_) x0 a w ⟨h0, hR.le hle⟩
  cases e with
  | normal =>
    obtain ⟨x', q1, q2, q3⟩ := q
    exact ⟨x', ⟨q1, r.le q3⟩, q2⟩
  | _ => exact ⟨st', q, r⟩
theorem awp_region (ht : TTok P tt) {rid : Nat} {ops : Array Oper} (id : Nat) (h : aops P tt ops (fun st' => Q .normal st') id ops.toList st) : AWP P E (.region rid ops false) Q st := by
  intro a w hR
  refine wp_region ?_
  have := wpOps_of_aops ht (Q := fun e a' w' => ∃ st', Q e st' ∧ R E st' a' w') (fun st' a' w' q r => ⟨st', q, r⟩) ops.toList 0 id st a w (by simp) h hR
  simpa using this
def St.result (st : St) : List Tmp → Option D
  | [t] => st.slots t
  | ts => match st.evL (ts.map Operand.tmp) with
    | some ds => some (.tup ds)
    | none => none
def Ends (rs : List Tmp) (r : D) (objs : List AObj) (gs : List Nat) (e : Exit) (st : St) : Prop :=
  (e = .normal ∨ e = .ret) ∧ gs.length = objs.length ∧ gs.Nodup ∧ (r.all fun k => decide (k < objs.length)) = true ∧ (∀ o ∈ objs, o.flat = true ∨ o.rows.all (D.allL fun k => decide (k < objs.length)) = true) ∧
    st.result rs = some (r.ren fun j => gs.getD j 0) ∧ ∀ j o, objs[j]? = some o → st.heap (gs.getD j 0) = some (o.ren fun j => gs.getD j 0)
def startSt (n : Nat) (ds : List D) : St := { n := n, slots := fun t => ds[t]?, heap := fun _ => none }
def startM (n : Nat) (ins : List AObj) (ds : List D) : St := { n := n, slots := fun t => ds[t]?, heap := fun j => (ins[j]?).map AObj.pinned }
def OutsAt (st : St) (k : Nat) (gs : List Nat) : List (Option AObj) → Nat → Prop
  | [], _ => True
  | none :: os, j => OutsAt st k gs os (j + 1)
  | some o :: os, j => ((st.heap (gs.getD j 0)).map AObj.bare = some (o.ren fun j => gs.getD j 0).bare ∧ (j < k → gs.getD j 0 = j ∧ pinAt st.heap j = true)) ∧ OutsAt st k gs os (j + 1)
end
end Go.Ab
