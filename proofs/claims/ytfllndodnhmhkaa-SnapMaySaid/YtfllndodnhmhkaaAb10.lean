/-
  ABSTRACT DATA FOR WALKS, 10: stores, copies, one operation whole.
-/
import Derived.Test.YtfllndodnhmhkaaAb9
namespace Go.Ab
set_option linter.unusedSimpArgs false
set_option linter.unusedVariables false

section
variable {P : Program} {E : Ent} {st : St} {a : Act} {w : World} {ρ : Locs} {I : Imm} {tt : TypeId → Option TI}

/-- What lies in a row of an object, written over from k on. -/
theorem run_hopStore (ht : TTok P tt) (h : RB E st a w ρ I) {T : TypeId} {p : Prop} {st1 : St} {da dx d : D} {u v : Value} (hv : hopStore tt st T da dx = some (p, st1, d)) (hp : p) (hu : Rep I ρ da u) (hx : Rep I ρ dx v) :
    ∃ w', (Instr.storeAt T u v).run P w = .ok () w' ∧ d = .junk ∧ ∃ J, RB E st1 a w' ρ J := by
  unfold hopStore at hv
  split at hv
  · rename_i ti oid i k hti
    obtain ⟨info, i1, i2, i3, i4, i5, i6⟩ := info_of ht hti
    cases ho0 : st.heap oid with
    | none => simp [ho0] at hv
    | some o0 =>
      simp only [ho0] at hv
      split at hv
      · rename_i ids q d1 hpur
        have key : q → ∃ J, (∀ b c, I b = some c → J b = some c) ∧ RB E (st.freeze ids) a w ρ J ∧ Rep J (if o0.flat then noLocs else ρ) d1 v := by
          intro hq
          cases hf : o0.flat with
          | true => simp only [hf, if_true] at hpur ⊢; exact h.pur hpur hq hx
          | false =>
            simp only [hf, Bool.false_eq_true, if_false, Option.some.injEq, Prod.mk.injEq] at hpur ⊢
            obtain ⟨rfl, _, rfl⟩ := hpur
            obtain ⟨J, hJ, h'⟩ := h.freeze []
            exact ⟨J, hJ, h', hx.imm hJ⟩
        cases ho : (st.freeze ids).heap oid with
        | none => simp [ho] at hv
        | some o =>
          simp only [ho, Option.some.injEq, Prod.mk.injEq] at hv
          obtain ⟨rfl, rfl, rfl⟩ := hv
          obtain ⟨g1, g2, g3, g4, g5, g6, g7⟩ := hp
          obtain ⟨J, hJ, h', hd1⟩ := key g1
          have hoo : o.flat = o0.flat := by
            simp only [St.freeze, ho0] at ho
            split at ho
            · simp only [Option.map_some, Option.some.injEq] at ho; rw [← ho]
            · simp only [Option.some.injEq] at ho; rw [← ho]
          obtain ⟨l, hl, hlaid⟩ := h'.mem.laid oid o ho
          obtain ⟨c1, c2⟩ := hd1.cells g5
          cases hu with
          | ptr _ _ _ _ b l' hl' hb =>
            rw [hl] at hl'; cases hl'
            rcases hlaid.mem with ⟨q0, _⟩ | ⟨b', c, el, lo, hi, q1, q2, q3, q4, q5, q6, hone, q7⟩
            · rw [q0] at hb; cases hb
            · have hbb : b' = b := by rw [q1] at hb; exact Option.some.inj hb
              subst hbb
              have hsz := hlaid.sz
              have hrow := getD_rows g3
              have hrl := hlaid.rows _ (List.mem_of_getElem? hrow)
              generalize o.rows.getD i [] = row0 at hrow hrl ⊢
              have hcap := hlaid.cap
              have hb1 : (i + 1) * o.sz ≤ l.cap * o.sz := Nat.mul_le_mul_right _ (by omega)
              rw [Nat.add_mul, Nat.one_mul] at hb1
              have hcl : v.cells.toList.length = ti.sz := by simp; omega
              have hfit : l.off + i * o.sz + k + v.cells.toList.length ≤ c.size := by rw [hcl]; omega
              have hv1 : ∀ x ∈ v.cells.toList, x.oneCell' = true := by
                intro x hx'
                obtain ⟨j, hj⟩ := List.getElem?_of_mem hx'
                have hj' : v.cells[j]? = some x := by simpa using hj
                have hlt : j < d1.cells.length := by have := (Array.getElem?_eq_some_iff.1 hj').1; omega
                exact (c2 j _ x (List.getElem?_eq_getElem hlt) hj').one (g7 _ (List.getElem_mem hlt))
              refine ⟨w.setRow b' (over c (l.off + i * o.sz + k) v.cells.toList), ?_, rfl, J, ?_⟩
              · have hne : v.cells.size = ti.sz := by omega
                simp only [Instr.storeAt, Instr.sureAddr, storeVar, Sem.run_bind, Sem.run_pure, Result.andThen_ok, run_sizeOf ht hti, hne, ne_eq, not_true, if_false]
                rw [hsz]
                exact run_store_over q2 q3.no hfit hv1
              · refine h'.write (rebind_setRow (c := c) (t := el) (fr := (lo, hi)) ho g2 hl q1) hl ⟨o, ho, g2, id⟩ ⟨hsz, hlaid.pos, fun row hr => ?_, by simpa using hcap, .inr ⟨b', over c (l.off + i * o.sz + k) v.cells.toList, el, lo, hi, q1, setRow_heap w b' c _ el (lo, hi) q2, by rw [over_size hfit]; exact q3, by rw [over_size hfit]; exact q4, by simp [g2], fun _ => q6 g2, over_one hfit hone hv1, ?_⟩⟩
                · rcases List.mem_or_eq_of_mem_set hr with hr | hr
                  · exact hlaid.rows row hr
                  · rw [hr]; simp; omega
                · intro i' j row d x r1 r2 r3
                  have r1' : (o.rows.set i (row0.take k ++ (d1.cells ++ row0.drop (k + ti.sz))))[i']? = some row := r1
                  have r3' : (over c (l.off + i * o.sz + k) v.cells.toList)[l.off + i' * o.sz + j]? = some x := r3
                  rw [over_get hfit, hcl] at r3'
                  rw [List.getElem?_set] at r1'
                  by_cases hii : i = i'
                  · subst hii
                    simp only [g3, if_true, Option.some.injEq] at r1'
                    subst r1'
                    by_cases hk1 : j < k
                    · rw [if_neg (by omega)] at r3'
                      rw [List.getElem?_append_left (by simp; omega), List.getElem?_take, if_pos hk1] at r2
                      exact q7 i j _ d x hrow r2 r3'
                    · rw [List.getElem?_append_right (by simp; omega)] at r2
                      have e1 : (row0.take k).length = k := by simp; omega
                      rw [e1] at r2
                      by_cases hk2 : j < k + ti.sz
                      · rw [if_pos (by omega)] at r3'
                        rw [List.getElem?_append_left (by omega)] at r2
                        have e2 : l.off + i * o.sz + j - (l.off + i * o.sz + k) = j - k := by omega
                        rw [e2] at r3'
                        have := c2 (j - k) d x r2 (by simpa using r3')
                        show Rep J (if o.flat then noLocs else ρ) d x
                        rw [hoo]; exact this
                      · rw [if_neg (by omega)] at r3'
                        rw [List.getElem?_append_right (by omega), List.getElem?_drop] at r2
                        have e2 : k + ti.sz + (j - k - d1.cells.length) = j := by omega
                        rw [e2] at r2
                        exact q7 i j _ d x hrow r2 r3'
                  · simp only [hii, if_false] at r1'
                    have hj := (List.getElem?_eq_some_iff.1 r2).1
                    rw [hlaid.rows row (List.mem_of_getElem? r1')] at hj
                    have hno : ¬ (l.off + i * o.sz + k ≤ l.off + i' * o.sz + j ∧ l.off + i' * o.sz + j < l.off + i * o.sz + k + ti.sz) := by
                      rintro ⟨a1, a2⟩
                      rcases Nat.lt_or_ge i i' with hlt | hge
                      · have : (i + 1) * o.sz ≤ i' * o.sz := Nat.mul_le_mul_right _ hlt
                        rw [Nat.add_mul, Nat.one_mul] at this; omega
                      · have : (i' + 1) * o.sz ≤ i * o.sz := Nat.mul_le_mul_right _ (by omega)
                        rw [Nat.add_mul, Nat.one_mul] at this; omega
                    rw [if_neg hno] at r3'
                    exact q7 i' j row d x r1' r2 r3'
      · cases hv
  · cases hv

theorem run_hopCopy (ht : TTok P tt) (h : RB E st a w ρ I) {T X ty : TypeId} {p : Prop} {st1 : St} {ds dx d : D} {u v : Value} (hv : hopCopy tt st T X ds dx = some (p, st1, d)) (hp : p) (hu : Rep I ρ ds u) (hx : Rep I ρ dx v) :
    ∃ z w', (Builtin.copy_ #[T, X] ty #[u, v]).run P w = .ok z w' ∧ Did E st1 a d z w' := by
  unfold hopCopy at hv
  split at hv
  · rename_i e he
    have hund := slice_und ht he
    split at hv
    · rename_i ei hei hXi
      obtain ⟨info, i1, i2, i3, i4, i5, i6⟩ := info_of ht hei
      split at hv
      · rename_i p2 rows2 hsrc
        split at hv
        · rename_i oid off len
          cases ho : st.heap oid with
          | none => simp [ho] at hv
          | some o =>
            simp only [ho, Option.some.injEq, Prod.mk.injEq] at hv
            obtain ⟨rfl, rfl, rfl⟩ := hv
            obtain ⟨g1, g2, g3, g4, g5, g6⟩ := hp
            obtain ⟨cs, s1, s2, s3, s4⟩ := h.source ht hei i1 hsrc g1 g2 g3 hx
            obtain ⟨l, hl, hlaid⟩ := h.mem.laid oid o ho
            obtain ⟨dX, hX, hA | ⟨⟨kk, hk⟩, _⟩⟩ := s1.und
            · obtain ⟨_, hlenof, hfc⟩ := hA
              generalize hn : min rows2.length len = n
              have hn1 : n ≤ rows2.length := by omega
              have hn2 : n ≤ len := by omega
              have hfc' := hfc w n rfl hn1
              have hle : n * ei.sz ≤ rows2.length * ei.sz := Nat.mul_le_mul_right _ hn1
              rw [i2] at hfc'
              have hcl : (cs.take (n * ei.sz)).length = n * ei.sz := by simp; omega
              cases hu with
              | own _ _ _ _ l' ad hl' hcap ha =>
                rw [hl] at hl'; cases hl'
                have hmin : Nat.min rows2.length len = n := hn
                by_cases hn0 : n = 0
                · subst hn0
                  simp only [Nat.zero_mul, List.take_zero] at hfc'
                  refine ⟨goInt 0, w, ?_, ρ, I, ?_, by simp [goInt]; exact .v _ _⟩
                  · cases ad <;> simp [Builtin.copy_, run_underlying hund, hlenof, run_sizeOf ht hei, hmin, hfc', storeCells]
                  · have e0 : o.rows.take off ++ (rows2.take 0 ++ o.rows.drop (off + 0)) = o.rows := by simp
                    rw [e0]
                    have : upd st.heap oid { o with rows := o.rows } = st.heap := by
                      funext k; simp only [upd]; split
                      · rename_i e; rw [e, ho]
                      · rfl
                    rw [this]; exact h
                · rcases ha with ha | ⟨b, hb, rfl⟩
                  · omega
                  · rcases hlaid.mem with ⟨q0, _⟩ | ⟨b', c, el, lo, hi, q1, q2, q3, q4, q5, q6, hone, q7⟩
                    · rw [q0] at hb; cases hb
                    · have hbb : b' = b := by rw [q1] at hb; exact Option.some.inj hb
                      subst hbb
                      have hsz := hlaid.sz
                      have hb1 : (off + n) * o.sz ≤ l.cap * o.sz := Nat.mul_le_mul_right _ (by omega)
                      rw [Nat.add_mul] at hb1
                      have hfit : l.off + off * o.sz + (cs.take (n * ei.sz)).length ≤ c.size := by rw [hcl, ← g5]; omega
                      have hv1 : ∀ x ∈ cs.take (n * ei.sz), x.oneCell' = true := fun x hx' => s3 x (List.mem_of_mem_take hx')
                      have hst := run_store_over (P := P) q2 q3.no hfit hv1
                      refine ⟨goInt n, w.setRow b' (over c (l.off + off * o.sz) (cs.take (n * ei.sz))), ?_, ρ, I, ?_, by simp [goInt]; exact .v _ _⟩
                      · simp [Builtin.copy_, run_underlying hund, hlenof, run_sizeOf ht hei, hmin, hfc', hsz, hst]
                      · refine h.write (rebind_setRow (c := c) (t := el) (fr := (lo, hi)) ho g4 hl q1) hl ⟨o, ho, g4, id⟩ ⟨hsz, hlaid.pos, fun row hr => ?_, by have := hlaid.cap; simp; omega, .inr ⟨b', over c (l.off + off * o.sz) (cs.take (n * ei.sz)), el, lo, hi, q1, setRow_heap w b' c _ el (lo, hi) q2, by rw [over_size hfit]; exact q3, by rw [over_size hfit]; exact q4, by simp [g4], fun _ => q6 g4, over_one hfit hone hv1, ?_⟩⟩
                        · rcases List.mem_append.1 hr with q | q
                          · exact hlaid.rows row (List.mem_of_mem_take q)
                          · rcases List.mem_append.1 q with q | q
                            · rw [g2 row (List.mem_of_mem_take q), g5]
                            · exact hlaid.rows row (List.mem_of_mem_drop q)
                        · intro i j row d x r1 r2 r3
                          have r1' : (o.rows.take off ++ (rows2.take n ++ o.rows.drop (off + n)))[i]? = some row := r1
                          have r3' : (over c (l.off + off * o.sz) (cs.take (n * ei.sz)))[l.off + i * o.sz + j]? = some x := r3
                          rw [over_get hfit, hcl] at r3'
                          have hj := (List.getElem?_eq_some_iff.1 r2).1
                          by_cases hi1 : i < off
                          · rw [List.getElem?_append_left (by simp; omega), List.getElem?_take, if_pos hi1] at r1'
                            rw [hlaid.rows row (List.mem_of_getElem? r1')] at hj
                            have hlt := mul_lt_of hi1 hj
                            rw [if_neg (by omega)] at r3'
                            exact q7 i j row d x r1' r2 r3'
                          · rw [List.getElem?_append_right (by simp; omega)] at r1'
                            have e1 : (o.rows.take off).length = off := by simp; omega
                            rw [e1] at r1'
                            have e3 : i * o.sz = off * o.sz + (i - off) * o.sz := by rw [← Nat.add_mul]; congr 1; omega
                            by_cases hi2 : i < off + n
                            · rw [List.getElem?_append_left (by simp; omega), List.getElem?_take, if_pos (by omega)] at r1'
                              rw [g2 row (List.mem_of_getElem? r1'), ← g5] at hj
                              have hlt := mul_lt_of (n := n) (i := i - off) (by omega) hj
                              rw [← g5] at r3' s4
                              rw [if_pos (by omega)] at r3'
                              have e2 : l.off + i * o.sz + j - (l.off + off * o.sz) = (i - off) * o.sz + j := by omega
                              rw [e2, List.getElem?_take, if_pos (by omega)] at r3'
                              have := s4 (i - off) j row d x r1' r2 (by simpa using r3')
                              show Rep I (if o.flat then noLocs else ρ) d x
                              cases o.flat with
                              | true => exact this
                              | false => exact noLocs_kill this
                            · rw [List.getElem?_append_right (by simp; omega), List.getElem?_drop] at r1'
                              have e4 : (rows2.take n).length = n := by simp; omega
                              rw [e4] at r1'
                              have e5 : off + n + (i - off - n) = i := by omega
                              rw [e5] at r1'
                              have hge : n * ei.sz ≤ (i - off) * ei.sz := Nat.mul_le_mul_right _ (by omega)
                              rw [← g5] at hge r3'
                              rw [if_neg (by omega)] at r3'
                              exact q7 i j row d x r1' r2 r3'
            · exfalso
              cases hXt : tt X with
              | none => simp [hXt] at hXi
              | some xi =>
                have := und_of ht hXt
                rw [hX] at this
                simp only [Option.some.injEq] at this
                subst hk
                simp [hXt, ← this, isIntT] at hXi
        · cases hv
      · cases hv
    · cases hv
  · cases hv

theorem shape_alloc (w : World) (c : Array Value) (e : TypeId) : (w.alloc (.cells c e)).shape? w.heap.size = some (e, c.size) := by
  unfold World.shape? World.alloc; simp
theorem shape_drew_alloc (w : World) (c : Array Value) (e : TypeId) : (w.drew.alloc (.cells c e)).shape? w.heap.size = some (e, c.size) := shape_alloc w.drew c e

theorem run_hopBytes (ht : TTok P tt) (h : RB E st a w ρ I) {id : Nat} {src dst : TypeId} {p : Prop} {st1 : St} {dx d : D} {u : Value} (hv : hopBytes tt id st src dst dx = some (p, st1, d)) (hp : p) (hu : Rep I ρ dx u) :
    ∃ z w', (convert src dst u).run P w = .ok z w' ∧ Did E st1 a d z w' := by
  unfold hopBytes at hv
  split at hv
  · rename_i s
    cases rep_v_inv hu
    split at hv
    · rename_i e hs hd
      have hud := slice_und ht hd
      have hus : P.underlying src = some .string := by
        cases hS : tt src with
        | none => simp [hS] at hs
        | some si =>
          simp only [hS, Option.map_some, Option.some.injEq] at hs
          have := und_of ht hS
          rwa [hs] at this
      split at hv
      · rename_i ei hei
        split at hv
        · rename_i hk
          simp only [Option.some.injEq, Prod.mk.injEq] at hv
          obtain ⟨rfl, rfl, rfl⟩ := hv
          have hue := und_of ht hei
          rw [hk] at hue
          have hge := grownCap_ge w s.size 0 e
          generalize hcap : grownCap w s.size 0 e = cap at hge
          let c : Array Value := (s.data.map fun b => Value.int .u8 b.toNat) ++ Array.replicate (cap - s.size) (.int .u8 0)
          have hcs : c.size = cap := by simp [c]; omega
          have hrun : (convert src dst (.string s)).run P w = .ok (.slice (some ⟨w.heap.size, 0, none⟩) s.size cap) ((w.drew.alloc (.cells c e)).freeze ⟨w.heap.size, c.size, none⟩ 1) := by
            simp only [convert, Sem.run_bind, run_underlying hus, run_underlying hud, Result.andThen_ok, run_underlying hue, Conv.stringToBytes, run_choose, Question.forced, newRow, run_newObj, markStringish, run_shape]
            simp only [grownCap] at hcap
            simp [hcap, shape_drew_alloc, c]
          refine ⟨_, _, hrun, _, I, h.drew.new id (c := c) (e := e) (lo := c.size) (hi := c.size + 1) (cap := cap) ?_ rfl rfl rfl (.inr (Nat.le_refl _)) rfl Nat.one_pos (fun row hr => ?_) (by simp [byteRows]; exact hge) (by rw [hcs]; simp) (fun j x hx => ?_) (fun i j row d x q1 q2 q3 => ?_), rep_new rfl rfl (by simpa using hge)⟩
          · simp only [World.freeze, World.alloc]
            simp
            apply Array.ext
            · simp
            · intro k h1 h2
              simp only [Array.getElem_modify, Array.getElem_push]
              split
              · rename_i hk'
                subst hk'
                simp
              · split
                · rfl
                · rename_i h3 h4
                  simp at h1
                  exfalso
                  have : (w.drew.heap.size) = w.heap.size := rfl
                  omega
          · simp only [byteRows, List.mem_map] at hr
            obtain ⟨b, _, rfl⟩ := hr
            rfl
          · simp only [c, Array.getElem?_append] at hx
            split at hx
            · simp only [Array.getElem?_map] at hx
              cases hb : s.data[j]? with
              | none => simp [hb] at hx
              | some b => simp [hb] at hx; subst hx; rfl
            · simp only [Array.getElem?_replicate] at hx
              split at hx
              · simp at hx; subst hx; rfl
              · cases hx
          · simp only [byteRows, List.getElem?_map] at q1
            cases hb : s.data.toList[i]? with
            | none => simp [hb] at q1
            | some b =>
              simp only [hb, Option.map_some, Option.some.injEq] at q1
              subst q1
              cases j with
              | succ j => simp at q2
              | zero =>
                simp only [List.getElem?_cons_zero, Option.some.injEq] at q2
                subst q2
                have hi : i < s.data.size := by have := (List.getElem?_eq_some_iff.1 hb).1; simpa using this
                simp only [c, Nat.mul_one, Nat.add_zero] at q3
                rw [Array.getElem?_append_left (by simpa using hi)] at q3
                have hb' : s.data[i]? = some b := by simpa using hb
                simp only [Array.getElem?_map, hb', Option.map_some, Option.some.injEq] at q3
                subst q3
                exact .v _ _
        · cases hv
      · cases hv
    · cases hv
  · cases hv

theorem Unfr.mark {n lo hi : Nat} (h : Unfr n lo hi) (hle : lo ≤ hi ∨ True) : Unfr n (if lo == hi then (n, n + 1) else (min lo n, max hi (n + 1))).1 (if lo == hi then (n, n + 1) else (min lo n, max hi (n + 1))).2 := by
  by_cases e : lo = hi
  · simp [e, Unfr]
  · rcases h with h | h
    · exact absurd h e
    · simp only [beq_iff_eq, e, if_false]
      right; omega

theorem run_hopConv (ht : TTok P tt) (h : RB E st a w ρ I) {id : Nat} {src dst : TypeId} {p : Prop} {st1 : St} {dx d : D} {u : Value} (hv : hopConv tt id st src dst dx = some (p, st1, d)) (hp : p) (hu : Rep I ρ dx u) :
    ∃ z w', (convert src dst u).run P w = .ok z w' ∧ Did E st1 a d z w' := by
  unfold hopConv at hv
  split at hv
  · rename_i oid off len
    split at hv
    · rename_i e o hs ho
      have hus := slice_und ht hs
      split at hv
      · rename_i ei hei
        split at hv
        · rename_i hk
          simp only [Option.some.injEq, Prod.mk.injEq] at hv
          obtain ⟨rfl, rfl, rfl⟩ := hv
          obtain ⟨rfl, hwr, hlen⟩ := hp
          have hue := und_of ht hei
          rw [hk] at hue
          have hu0 := hu
          cases hu with
          | own _ _ _ _ l ad hl hcap ha =>
            obtain ⟨l', el, hlaid⟩ := h.mem.laid oid o ho
            rw [hl] at el; cases el
            rcases ha with ha | ⟨b, hb, rfl⟩
            · omega
            · rcases hlaid.mem with ⟨g0, _⟩ | ⟨b', c, et, lo, hi, q1, q2, q3, q4, q5, q6, hone, q7⟩
              · rw [g0] at hb; cases hb
              · have hbb : b' = b := by rw [q1] at hb; exact Option.some.inj hb
                subst hbb
                have hsh : w.shape? b' = some (et, c.size) := by simp [World.shape?, q2]
                have hrun : (convert src src (.slice (some ⟨b', l.off + off * l.sz, none⟩) len (l.cap - off))).run P w = .ok (.slice (some ⟨b', l.off + off * l.sz, none⟩) len (l.cap - off)) (w.freeze ⟨b', c.size, none⟩ 1) := by
                  simp only [convert, Sem.run_bind, run_underlying hus, Result.andThen_ok, beq_self_eq_true, run_underlying hue, markStringish, run_shape, hsh]
                  rfl
                have hb' : w.heap[b']? = some (.cells c et (lo, hi)) := q2
                have hheap : (w.freeze ⟨b', c.size, none⟩ 1).heap[b']? = some (.cells c et (if lo == hi then (c.size, c.size + 1) else (min lo c.size, max hi (c.size + 1)))) := by
                  simp only [World.freeze]
                  rw [if_neg (by decide), Array.getElem?_modify, if_pos rfl, hb']
                  rfl
                have hother : ∀ k, k ≠ b' → (w.freeze ⟨b', c.size, none⟩ 1).heap[k]? = w.heap[k]? := fun k hk => by
                  simp [World.freeze, Array.getElem?_modify, Ne.symm hk]
                have hu' := Unfr.mark q3 (.inr trivial)
                refine ⟨_, _, hrun, ρ, I, ?_, hu0⟩
                have hr : Rebind st w (w.freeze ⟨b', c.size, none⟩ 1) ρ oid b' := ⟨rfl, rfl, rfl, by simp [World.freeze], fun k hk _ => hother k hk, .inr ⟨o, l, ho, hwr, hl, q1⟩⟩
                have hwrite := h.write hr hl ⟨o, ho, hwr, fun q => q⟩ (o := o) ⟨hlaid.sz, hlaid.pos, hlaid.rows, hlaid.cap, .inr ⟨b', c, et, _, _, q1, hheap, hu', q4, q5, q6, hone, q7⟩⟩
                have he : upd st.heap oid o = st.heap := by
                  funext k
                  simp only [upd]
                  split
                  · rename_i e; rw [e, ho]
                  · rfl
                rw [he] at hwrite
                exact hwrite
        · cases hv
      · cases hv
    · cases hv
  · exact run_hopBytes ht h hv hp hu

end
end Go.Ab
