import Derived.Test.YtglcnghfmdcdpaaAbB
import Derived.MapKept
import Derived.ChangeKeysEq
import Derived.WideKeyRuns
namespace Go.Ab
open Go.MapKept
set_option linter.unusedSimpArgs false
set_option linter.unusedVariables false
deriving instance DecidableEq for MKind
def keyEq : Value → Value → Bool
  | .int _ a, .int _ b => a == b
  | .string s, .string t => s == t
  | .agg v, .agg u => match v.toList, u.toList with
    | [.int _ a, .int _ b], [.int _ c, .int _ d] => a == c && b == d
    | _, _ => false
  | _, _ => false
def findM (k : Value) : List (Value × Value) → Nat → Option (Nat × Value)
  | [], _ => none
  | e :: es, i => if keyEq k e.1 = true then some (i, e.2) else findM k es (i + 1)
def mget (k : Value) : List (Value × Value) → Option Value
  | [] => none
  | e :: es => if keyEq k e.1 = true then some e.2 else mget k es
def mset (k v : Value) : List (Value × Value) → List (Value × Value)
  | [] => [(k, v)]
  | e :: es => if keyEq k e.1 = true then (k, v) :: es else e :: mset k v es
theorem findM_none {k : Value} : ∀ {es : List (Value × Value)} {i : Nat}, findM k es i = none → mget k es = none ∧ ∀ v, mset k v es = es ++ [(k, v)]
  | [], _, _ => ⟨rfl, fun _ => rfl⟩
  | e :: es, i, h => by
    rw [findM] at h
    split at h
    · cases h
    · rename_i hk
      obtain ⟨h1, h2⟩ := findM_none h
      exact ⟨by rw [mget, if_neg hk, h1], fun v => by rw [mset, if_neg hk, h2]; rfl⟩
theorem findM_some {k : Value} : ∀ {es : List (Value × Value)} {i n : Nat} {x : Value}, findM k es i = some (n, x) → ∃ j e, n = i + j ∧ es[j]? = some e ∧ keyEq k e.1 = true ∧ mget k es = some x ∧ ∀ v, mset k v es = es.set j (k, v)
  | [], _, _, _, h => by cases h
  | e :: es, i, n, x, h => by
    rw [findM] at h
    split at h
    · rename_i hk
      simp only [Option.some.injEq, Prod.mk.injEq] at h
      obtain ⟨rfl, rfl⟩ := h
      exact ⟨0, e, rfl, rfl, hk, by rw [mget, if_pos hk], fun v => by rw [mset, if_pos hk]; rfl⟩
    · rename_i hk
      obtain ⟨j, e', h1, h2, h3, h4, h5⟩ := findM_some h
      exact ⟨j + 1, e', by omega, by simpa using h2, h3, by rw [mget, if_neg hk, h4], fun v => by rw [mset, if_neg hk, h5]; rfl⟩
theorem pair_of {e : TypeId} {v : Value} (h : (MKind.pair e).ok v = true) : ∃ a b, v = .agg #[.int .i64 a, .int .i64 b] := by
  cases v with
  | agg vs =>
    simp only [MKind.ok] at h
    split at h
    · rename_i k a k' b he
      simp only [Bool.and_eq_true, decide_eq_true_eq] at h
      obtain ⟨rfl, rfl⟩ := h
      exact ⟨a, b, by congr 1; apply Array.ext'; rw [he]⟩
    · cases h
  | _ => cases h
theorem keyEq_pair (a b c d : Int) : keyEq (.agg #[.int .i64 a, .int .i64 b]) (.agg #[.int .i64 c, .int .i64 d]) = (a == c && b == d) := rfl
theorem keyEq_iff {kd : MKind} {u v : Value} (hu : kd.ok u = true) (hv : kd.ok v = true) : keyEq u v = true ↔ u = v := by
  cases kd with
  | int k =>
    cases u <;> first | (cases hu; done) | skip
    cases v <;> first | (cases hv; done) | skip
    simp only [MKind.ok, decide_eq_true_eq] at hu hv
    subst hu hv
    simp [keyEq]
  | str =>
    cases u <;> first | (cases hu; done) | skip
    cases v <;> first | (cases hv; done) | skip
    simp [keyEq, bytes_beq]
  | pair e =>
    obtain ⟨a, b, rfl⟩ := pair_of hu
    obtain ⟨c, d, rfl⟩ := pair_of hv
    rw [keyEq_pair]
    simp
def kindOf (tt : TypeId → Option TI) (kt : TypeId) : Option MKind := match (tt kt).map TI.und with
  | some (.int k) => some (.int k)
  | some .string => some .str
  | some (.array 2 e) => match tt e with
    | some ti => match ti.und with
      | .int .i64 => if ti.sz = 1 then some (.pair e) else none
      | _ => none
    | none => none
  | _ => none
section
variable {P : Program} {E : Ent} {st : St} {a : Act} {w : World} {ρ : Locs} {I : Imm} {tt : TypeId → Option TI}
structure MLaw (P : Program) (kt : TypeId) (ok : Value → Bool) : Prop where
  check : ∀ (w : World) (em : Bool) (v : Value), ok v = true → (Instr.checkKey em 10000 kt v).run P w = .ok () w
  find : ∀ (w : World) (x : Value), ok x = true → ∀ es : List MapEntry, (∀ e ∈ es, ok e.key = true) → (Instr.findKey kt x es).run P w = .ok (findM x (es.map fun e => (e.key, e.val)) 0) w
  stays : ∀ (w : World) (v : Value), ok v = true → (Instr.keyThatStays v v).run P w = .ok v w
theorem findNow_M {d : TypeDesc} {kd : MKind} (hn : ∀ u v, kd.ok u = true → kd.ok v = true → Instr.sameNow d u v = some (keyEq u v)) {k : Value} (hk : kd.ok k = true) : ∀ (l : List MapEntry) (i : Nat), (∀ x ∈ l, kd.ok x.key = true) → Instr.findNow d k l i = some (findM k (l.map fun e => (e.key, e.val)) i)
  | [], _, _ => rfl
  | e :: es, i, h => by
    have he := h e (.head _)
    rw [Instr.findNow, hn _ _ hk he, List.map_cons, findM]
    cases hq : keyEq k e.key
    · simp only [Bool.false_eq_true, if_false]
      exact findNow_M hn hk es (i + 1) fun x hx => h x (.tail _ hx)
    · simp only [if_true]
theorem isKey_int {k : IntKind} {v : Value} (h : (MKind.int k).ok v = true) : IsKey (.int k) v := by
  cases v <;> first | (cases h; done) | skip
  simp only [MKind.ok, decide_eq_true_eq] at h
  subst h
  simp [IsKey]
theorem isKey_str {v : Value} (h : MKind.str.ok v = true) : IsKey .string v := by
  cases v <;> first | (cases h; done) | skip
  trivial
theorem law_int {kt : TypeId} {k : IntKind} (hu : P.underlying kt = some (.int k)) : MLaw P kt (MKind.int k).ok where
  check := fun w em v hv => MapKept.run_checkKey hu (isKey_int hv) em 9999
  find := fun w x hx es hes => MapKept.run_findKey hu (findNow_M (d := .int k) (kd := .int k) (fun u v h1 h2 => by
    cases u <;> first | (cases h1; done) | skip
    cases v <;> first | (cases h2; done) | skip
    simp only [MKind.ok, decide_eq_true_eq] at h1 h2
    subst h1 h2
    simp [Instr.sameNow, keyEq]) hx es 0 hes)
  stays := fun w v hv => MapKept.run_keyThatStays (isKey_int hv)
theorem law_str {kt : TypeId} (hu : P.underlying kt = some .string) : MLaw P kt MKind.str.ok where
  check := fun w em v hv => MapKept.run_checkKey hu (isKey_str hv) em 9999
  find := fun w x hx es hes => MapKept.run_findKey hu (findNow_M (d := .string) (kd := .str) (fun u v h1 h2 => by
    cases u <;> first | (cases h1; done) | skip
    cases v <;> first | (cases h2; done) | skip
    simp [Instr.sameNow, keyEq]) hx es 0 hes)
  stays := fun w v hv => MapKept.run_keyThatStays (isKey_str hv)
theorem plainKey_int {e : TypeId} {k : IntKind} (he : P.underlying e = some (.int k)) : P.plainKey e = true := by
  simp [Program.plainKey, he]
theorem run_equal_pair {kt e : TypeId} {i : TypeInfo} (hu : P.underlying kt = some (.array 2 e)) (hi : P.info? e = some i) (he : P.underlying e = some (.int .i64)) (hc : P.cellsOf e = 1) (a b c d : Int) :
    (Op.equal kt (.agg #[.int .i64 a, .int .i64 b]) (.agg #[.int .i64 c, .int .i64 d])).run P w = .ok (a == c && b == d) w := by
  have hp := plainKey_int he
  have hq0 : ∀ (n : Nat) (x y : Int), (Op.equalIn (n + 1) e (.int .i64 x) (.int .i64 y)).run P w = .ok (x == y) w := fun n x y => by
    simp [Op.equalIn, run_underlying he]
  have hq : ∀ x y : Int, (Op.equalIn 9999 e (.int .i64 x) (.int .i64 y)).run P w = .ok (x == y) w := fun x y => hq0 9998 x y
  have ha := run_equalIn_array w 9999 #[.int .i64 a, .int .i64 b] #[.int .i64 c, .int .i64 d] hu hi
  refine Eq.trans ha ?_
  rw [hc]
  show (Op.eqItems 9999 e 1 _ _ [0, 1]).run P w = _
  simp only [Op.eqItems, Sem.run_bind, Nat.zero_mul, Nat.one_mul]
  rw [run_part_plain w hp (v := .int .i64 a) rfl, Result.andThen_ok, run_part_plain w hp (v := .int .i64 c) rfl, Result.andThen_ok, hq, Result.andThen_ok]
  cases h1 : (a == c)
  · simp
  · simp only [Bool.not_true, Bool.false_eq_true, if_false]
    rw [Sem.run_bind, run_part_plain w hp (v := .int .i64 b) rfl, Result.andThen_ok, Sem.run_bind, run_part_plain w hp (v := .int .i64 d) rfl, Result.andThen_ok, Sem.run_bind, hq, Result.andThen_ok]
    cases h2 : (b == d) <;> simp
theorem findAsking_pair {kt e : TypeId} {i : TypeInfo} (hu : P.underlying kt = some (.array 2 e)) (hi : P.info? e = some i) (he : P.underlying e = some (.int .i64)) (hc : P.cellsOf e = 1) (w : World) {x : Value} (hx : (MKind.pair e).ok x = true) :
    ∀ (es : List MapEntry) (n : Nat), (∀ y ∈ es, (MKind.pair e).ok y.key = true) → (Instr.findAsking kt x es n).run P w = .ok (findM x (es.map fun e => (e.key, e.val)) n) w
  | [], n, _ => by simp [Instr.findAsking, findM]
  | y :: es, n, h => by
    obtain ⟨a, b, rfl⟩ := pair_of hx
    obtain ⟨c, d, hy⟩ := pair_of (h y (.head _))
    rw [Instr.findAsking, Sem.run_bind, hy, run_equal_pair hu hi he hc, Result.andThen_ok, List.map_cons, findM, hy, keyEq_pair]
    cases hq : (a == c && b == d)
    · simp only [Bool.false_eq_true, if_false]
      exact findAsking_pair hu hi he hc w hx es (n + 1) fun z hz => h z (.tail _ hz)
    · simp
theorem law_pair {kt e : TypeId} {i : TypeInfo} (hu : P.underlying kt = some (.array 2 e)) (hi : P.info? e = some i) (he : P.underlying e = some (.int .i64)) (hc : P.cellsOf e = 1) : MLaw P kt (MKind.pair e).ok where
  check := fun w em v hv => by
    obtain ⟨a, b, rfl⟩ := pair_of hv
    have hp := plainKey_int he
    have hq : ∀ x : Int, (Instr.checkKey em 9999 e (.int .i64 x)).run P w = .ok () w := fun x => MapKept.run_checkKey he (k := .int .i64 x) (by simp [IsKey]) em 9998
    show (Instr.checkKey em (9999 + 1) kt _).run P w = _
    rw [Instr.checkKey]
    simp only [Sem.run_bind, run_underlying hu, Result.andThen_ok]
    simp only [Std.Legacy.Range.forIn_eq_forIn_range', Std.Legacy.Range.size, Nat.sub_zero, Nat.add_one_sub_one, Nat.div_one]
    rw [show List.range' 0 2 = [0, 1] from rfl]
    simp [Sem.run_bind, Go.run_sizeOf w hi, hc, run_part_plain w hp (xs := #[.int .i64 a, .int .i64 b]) (off := 0) (v := .int .i64 a) rfl, run_part_plain w hp (xs := #[.int .i64 a, .int .i64 b]) (off := 1) (v := .int .i64 b) rfl, hq]
  find := fun w x hx es hes => by
    rw [run_findKey_eq w (by rw [hu])]
    exact findAsking_pair hu hi he hc w hx es 0 hes
  stays := fun w v hv => by
    obtain ⟨a, b, rfl⟩ := pair_of hv
    have : Instr.sameBits 10000 (.agg #[.int .i64 a, .int .i64 b]) (.agg #[.int .i64 a, .int .i64 b]) = true := by
      show Instr.sameBits (9998 + 1 + 1) _ _ = true
      simp [Instr.sameBits]
    simp [Instr.keyThatStays, this]
theorem law_of (ht : TTok P tt) {kt : TypeId} {kd : MKind} (h : kindOf tt kt = some kd) : MLaw P kt kd.ok := by
  unfold kindOf at h
  split at h
  · rename_i k hk
    cases h
    cases hT : tt kt with
    | none => simp [hT] at hk
    | some ti =>
      simp [hT] at hk
      exact law_int (hk ▸ und_of ht hT)
  · rename_i hk
    cases h
    cases hT : tt kt with
    | none => simp [hT] at hk
    | some ti =>
      simp [hT] at hk
      exact law_str (hk ▸ und_of ht hT)
  · rename_i e hk
    split at h
    · rename_i ti hti
      split at h
      · rename_i hund
        split at h
        · rename_i hsz
          cases h
          cases hT : tt kt with
          | none => simp [hT] at hk
          | some tk =>
            simp [hT] at hk
            obtain ⟨info, q1, q2, q3, _⟩ := ht e ti hti
            have hc : P.cellsOf e = 1 := by simp [Program.cellsOf, q1, q3, hsz]
            exact law_pair (hk ▸ und_of ht hT) q1 (hund ▸ und_of ht hti) hc
        · cases h
      · cases h
    · cases h
  · cases h
def keyD (kd : MKind) : D → Option Value
  | .v x => if kd.ok x = true then some x else none
  | .agg [.v x, .v y] => if kd.ok (.agg #[x, y]) = true then some (.agg #[x, y]) else none
  | _ => none
theorem keyD_int (k : IntKind) (n : Int) : keyD (.int k) (.v (.int k n)) = some (.int k n) := by simp [keyD, MKind.ok]
theorem keyD_str (s : ByteArray) : keyD .str (.v (.string s)) = some (.string s) := by simp [keyD, MKind.ok]
theorem keyD_pair (e : TypeId) (a b : Int) : keyD (.pair e) (.agg [.v (.int .i64 a), .v (.int .i64 b)]) = some (.agg #[.int .i64 a, .int .i64 b]) := by simp [keyD, MKind.ok]
theorem keyD_rep {kd : MKind} {d : D} {k x : Value} (h : keyD kd d = some k) (hr : Rep I ρ d x) : x = k ∧ kd.ok k = true := by
  unfold keyD at h
  split at h
  · split at h
    · rename_i hk; cases h; exact ⟨rep_v_inv hr, hk⟩
    · cases h
  · rename_i u v
    split at h
    · rename_i hk
      cases h
      cases hr with
      | agg _ cs vs hl hh =>
        have hsz : vs.size = 2 := by simpa using hl.symm
        have e0 := rep_v_inv (hh 0 _ (vs[0]'(by omega)) rfl (Array.getElem?_eq_getElem (by omega)))
        have e1 := rep_v_inv (hh 1 _ (vs[1]'(by omega)) rfl (Array.getElem?_eq_getElem (by omega)))
        refine ⟨?_, hk⟩
        congr 1
        apply Array.ext
        · simp [hsz]
        · intro i h1 h2
          have : i = 0 ∨ i = 1 := by simp at h2; omega
          rcases this with rfl | rfl
          · exact e0
          · exact e1
    · cases h
  · cases h
def plainT : TypeDesc → Bool
  | .int _ => true
  | .bool => true
  | _ => false
def mapT (tt : TypeId → Option TI) (T : TypeId) : Option (MKind × Value) := match (tt T).map TI.und with
  | some (.map kt et) => match kindOf tt kt, tt et with
    | some kd, some ti => if plainT ti.und = true then some (kd, ti.zero) else none
    | _, _ => none
  | _ => none
def mopSet (tt : TypeId → Option TI) (st : St) (T : TypeId) (m k x : Operand) : Option (Prop × St × D) := match mapT tt T, st.mp, st.ev m, st.ev k, st.ev x with
  | some (kd, _), some mp, some (.v (.map (some b))), some dk, some (.v xv) => match keyD kd dk with
    | some kv => if b = mp.b ∧ kd = mp.kd then some (True, { st with mp := some { b := mp.b, kd := mp.kd, es := mset kv xv mp.es } }, .junk) else none
    | none => none
  | _, _, _, _, _ => none
def mopGet (tt : TypeId → Option TI) (st : St) (T : TypeId) (m k : Operand) (ok : Bool) : Option (Prop × St × D) := match mapT tt T, st.mp, st.ev m, st.ev k with
  | some (kd, z), some mp, some (.v (.map (some b))), some dk => match keyD kd dk with
    | some kv => if b = mp.b ∧ kd = mp.kd then some (True, st, match ok, mget kv mp.es with
      | true, some x => .tup [.v x, .v (.bool true)]
      | true, none => .tup [.v z, .v (.bool false)]
      | false, some x => .v x
      | false, none => .v z) else none
    | none => none
  | _, _, _, _ => none
def mopLen (tt : TypeId → Option TI) (st : St) (T : TypeId) (m : Operand) : Option (Prop × St × D) := match mapT tt T, st.mp, st.ev m with
  | some _, some mp, some (.v (.map (some b))) => if b = mp.b then some (True, st, .v (.int .i64 mp.es.length)) else none
  | _, _, _ => none
def mop (tt : TypeId → Option TI) (st : St) : Op → Option (Prop × St × D)
  | .insert T m k x => mopSet tt st T m k x
  | .mapUpdate T m k x => mopSet tt st T m k x
  | .lookup T m k ok => mopGet tt st T m k ok
  | .call c => match c.callee, c.args.toList, c.argTypes.toList with
    | .builtin .len, [m], [T] => mopLen tt st T m
    | _, _, _ => none
  | _ => none
def newMapOf (tt : TypeId → Option TI) : Op → Option MKind
  | .makeMap T none => (mapT tt T).map (·.1)
  | _ => none
theorem mapT_of (ht : TTok P tt) {T : TypeId} {kd : MKind} {z : Value} (h : mapT tt T = some (kd, z)) : ∃ kt et, P.underlying T = some (.map kt et) ∧ MLaw P kt kd.ok ∧ (∀ w, (zeroValue et).run P w = .ok z w) := by
  unfold mapT at h
  split at h
  · rename_i kt et hm
    split at h
    · rename_i kd' ti hk hti
      split at h
      · cases h
        cases hT : tt T with
        | none => simp [hT] at hm
        | some tk =>
          simp [hT] at hm
          obtain ⟨info, q1, q2, q3, q4, q5, _⟩ := ht et ti hti
          exact ⟨kt, et, hm ▸ und_of ht hT, law_of ht hk, fun w => by simp [zeroValue, run_typeInfo w q1, q5, Result.andThen]⟩
      · cases h
    · cases h
  · cases h
theorem RB.mapWrite (h : RB E st a w ρ I) {w' : World} {m m' : AMap} (hm : MapIn E w m) (hm' : MapIn E w' m') (h1 : w'.os = w.os) (h2 : w'.tape = w.tape) (h3 : w'.output = w.output) (hs : w'.heap.size = w.heap.size) (hh : ∀ k, k ≠ m.b → w'.heap[k]? = w.heap[k]?) :
    RB E { st with mp := some m' } a w' ρ I where
  size := h.size
  defers := h.defers
  slots := h.slots
  mem := by
    refine ⟨fun id o ho => ?_, h.mem.apart, ?_⟩
    · obtain ⟨l, e, hl⟩ := h.mem.laid id o ho
      exact ⟨l, e, hl.kept (fun _ _ q => q) (fun b hb => hh b fun e => hl.notMap hb hm e.symm) (fun _ _ _ q => q) (fun _ _ q => q)⟩
    · intro b c hb
      obtain ⟨e, fr, hw⟩ := h.mem.imm b c hb
      have hne : b ≠ m.b := by
        rintro rfl
        obtain ⟨arr, clock, g, _⟩ := hm.here
        rw [g] at hw; cases hw
      exact ⟨e, fr, by rw [hh b hne]; exact hw⟩
  i0 := h.i0
  i1 := h.i1
  ext := ⟨h1.trans h.ext.os, h2.trans h.ext.tape, h3.trans h.ext.output, by rw [hs]; exact h.ext.size, fun k hk hM => by
    rw [hh k ?_]
    · exact h.ext.block k hk hM
    · rintro rfl
      rcases hm.fresh with q | q
      · exact hM q
      · omega⟩
  fresh := h.fresh
  pins := h.pins
  mp := fun x hx => by cases hx; exact hm'
theorem RB.mapMade (h : RB E st a w ρ I) (kd : MKind) : RB E { st with mp := some ⟨w.heap.size, kd, []⟩ } a (w.alloc (.map #[] 0)) ρ I := by
  have hb := heap_alloc w (.map #[] 0)
  refine ⟨h.size, h.defers, h.slots, ⟨fun id o ho => ?_, h.mem.apart, fun b c q => ?_⟩, h.i0, h.i1, ?_, h.fresh, h.pins, fun x hx => ?_⟩
  · obtain ⟨l, e, hl⟩ := h.mem.laid id o ho
    exact ⟨l, e, hl.kept (fun _ _ q => q) (fun b hb' => hb.2 b (blk_lt hl hb')) (fun _ _ _ q => q) (fun _ _ q => q)⟩
  · obtain ⟨e, fr, hw⟩ := h.mem.imm b c q
    exact ⟨e, fr, by rw [hb.2 b (h.mem.imm.lt q)]; exact hw⟩
  · refine ⟨h.ext.os, h.ext.tape, h.ext.output, ?_, fun k hk hM => ?_⟩
    · have := h.ext.size
      have e : (w.alloc (.map #[] 0)).heap.size = w.heap.size + 1 := by show (w.heap.push _).size = _; simp
      omega
    · have := h.ext.size
      rw [hb.2 k (by omega)]; exact h.ext.block k hk hM
  · cases hx
    exact ⟨.inr h.ext.size, ⟨#[], 0, hb.1, rfl⟩, by simp⟩
theorem run_mopSet (ht : TTok P tt) (h : RB E st a w ρ I) {T : TypeId} {m k x : Operand} {p : Prop} {st1 : St} {d : D} (hv : mopSet tt st T m k x = some (p, st1, d)) :
    ∃ w', (Instr.mapUpdate T (a.eval m) (a.eval k) (a.eval x)).run P w = .ok () w' ∧ RB E st1 a w' ρ I ∧ d = .junk := by
  unfold mopSet at hv
  split at hv
  · rename_i kd z mp b dk xv hT hmp hem hek hex
    split at hv
    · rename_i kv hkv
      split at hv
      · rename_i hb
        simp only [Option.some.injEq, Prod.mk.injEq] at hv
        obtain ⟨-, rfl, rfl⟩ := hv
        obtain ⟨hb1, hb2⟩ := hb
        subst hb1 hb2
        obtain ⟨kt, et, hund, L, hz⟩ := mapT_of ht hT
        have e1 := rep_v_inv (h.ev hem)
        have e3 := rep_v_inv (h.ev hex)
        obtain ⟨e2, hok⟩ := keyD_rep hkv (h.ev hek)
        rw [e1, e2, e3]
        have hm := h.mp _ hmp
        obtain ⟨arr, clock, g1, g2⟩ := hm.here
        have hkeys : ∀ y ∈ arr.toList, mp.kd.ok y.key = true := fun y hy => hm.keys (y.key, y.val) (by rw [← g2]; exact List.mem_map.2 ⟨y, hy, rfl⟩)
        have hf := L.find w kv hok arr.toList hkeys
        rw [g2] at hf
        cases hfm : findM kv mp.es 0 with
        | none =>
          rw [hfm] at hf
          obtain ⟨n1, n2⟩ := findM_none hfm
          refine ⟨{ w with heap := w.heap.setIfInBounds mp.b (.map (arr.push ⟨kv, xv, clock⟩) (clock + 1)) }, ?_, ?_, rfl⟩
          · simp [Instr.mapUpdate, run_underlying hund, MapKept.run_getObj_map g1, L.check w false kv hok, hf, MapKept.run_setObj_map _ g1, Result.andThen]
          · refine h.mapWrite hm (m' := ⟨mp.b, mp.kd, mset kv xv mp.es⟩) ⟨hm.fresh, ⟨_, _, (heap_set g1).1, ?_⟩, ?_⟩ rfl rfl rfl (by simp) (heap_set g1).2
            · rw [n2]; simp [g2]
            · intro e he
              rw [show (AMap.mk mp.b mp.kd (mset kv xv mp.es)).es = mset kv xv mp.es from rfl, n2] at he
              rcases List.mem_append.1 he with q | q
              · exact hm.keys e q
              · rw [List.mem_singleton.1 q]; exact hok
        | some r =>
          obtain ⟨n, y⟩ := r
          rw [hfm] at hf
          obtain ⟨j, e, q1, q2, q3, q4, q5⟩ := findM_some hfm
          rw [Nat.zero_add] at q1
          subst q1
          have hek' := hm.keys e (List.mem_of_getElem? q2)
          have hee : kv = e.1 := (keyEq_iff hok hek').1 q3
          have hj : ∃ me : MapEntry, arr[n]? = some me ∧ (me.key, me.val) = e := by
            rw [← g2, List.getElem?_map, Option.map_eq_some_iff] at q2
            obtain ⟨me, r1, r2⟩ := q2
            exact ⟨me, by simpa using r1, r2⟩
          obtain ⟨me, r1, r2⟩ := hj
          have hmk : me.key = kv := by rw [hee, ← r2]
          refine ⟨{ w with heap := w.heap.setIfInBounds mp.b (.map (arr.modify n fun e' => { e' with key := kv, val := xv }) clock) }, ?_, ?_, rfl⟩
          · simp [Instr.mapUpdate, run_underlying hund, MapKept.run_getObj_map g1, L.check w false kv hok, hf, r1, hmk, L.stays w kv hok, MapKept.run_setObj_map _ g1, Result.andThen]
          · refine h.mapWrite hm (m' := ⟨mp.b, mp.kd, mset kv xv mp.es⟩) ⟨hm.fresh, ⟨_, _, (heap_set g1).1, ?_⟩, ?_⟩ rfl rfl rfl (by simp) (heap_set g1).2
            · rw [q5, ← g2]
              apply List.ext_getElem?
              intro i
              simp only [List.getElem?_map, Array.getElem?_toList, Array.getElem?_modify, List.getElem?_set]
              by_cases hin : n = i
              · subst hin
                have hlt : n < arr.size := (Array.getElem?_eq_some_iff.1 r1).1
                simp [r1, hlt]
              · simp [hin]
            · intro e' he
              rw [show (AMap.mk mp.b mp.kd (mset kv xv mp.es)).es = mset kv xv mp.es from rfl, q5] at he
              rcases List.mem_or_eq_of_mem_set he with q | q
              · exact hm.keys e' q
              · rw [q]; exact hok
      · cases hv
    · cases hv
  · cases hv
theorem run_mopGet (ht : TTok P tt) (h : RB E st a w ρ I) {T : TypeId} {m k : Operand} {ok : Bool} {p : Prop} {st1 : St} {d : D} (hv : mopGet tt st T m k ok = some (p, st1, d)) :
    ∃ v, (Instr.lookup T (a.eval m) (a.eval k) ok).run P w = .ok v w ∧ st1 = st ∧ Rep I ρ d v := by
  unfold mopGet at hv
  split at hv
  · rename_i kd z mp b dk hT hmp hem hek
    split at hv
    · rename_i kv hkv
      split at hv
      · rename_i hb
        simp only [Option.some.injEq, Prod.mk.injEq] at hv
        obtain ⟨-, rfl, hd⟩ := hv
        obtain ⟨hb1, hb2⟩ := hb
        subst hb1 hb2
        obtain ⟨kt, et, hund, L, hz⟩ := mapT_of ht hT
        have e1 := rep_v_inv (h.ev hem)
        obtain ⟨e2, hok⟩ := keyD_rep hkv (h.ev hek)
        rw [e1, e2]
        have hm := h.mp _ hmp
        obtain ⟨arr, clock, g1, g2⟩ := hm.here
        have hkeys : ∀ y ∈ arr.toList, mp.kd.ok y.key = true := fun y hy => hm.keys (y.key, y.val) (by rw [← g2]; exact List.mem_map.2 ⟨y, hy, rfl⟩)
        have hf := L.find w kv hok arr.toList hkeys
        rw [g2] at hf
        have htup : ∀ (x : Value) (c : Bool), Rep I ρ (.tup [.v x, .v (.bool c)]) (.tuple #[x, .bool c]) := fun x c => .tup _ _ _ rfl fun i d' y h1 h2 => by
          match i, h1, h2 with
          | 0, h1, h2 => simp at h1 h2; subst h1 h2; exact .v _ _
          | 1, h1, h2 => simp at h1 h2; subst h1 h2; exact .v _ _
          | n + 2, h1, h2 => simp at h1
        cases hfm : findM kv mp.es 0 with
        | none =>
          rw [hfm] at hf
          obtain ⟨n1, _⟩ := findM_none hfm
          rw [n1] at hd
          cases ok
          · exact ⟨z, by simp [Instr.lookup, run_underlying hund, MapKept.run_getObj_map g1, L.check w _ kv hok, hf, hz, Result.andThen], rfl, by rw [← hd]; exact .v _ _⟩
          · exact ⟨.tuple #[z, .bool false], by simp [Instr.lookup, run_underlying hund, MapKept.run_getObj_map g1, L.check w _ kv hok, hf, hz, Result.andThen], rfl, by rw [← hd]; exact htup _ _⟩
        | some r =>
          obtain ⟨n, y⟩ := r
          rw [hfm] at hf
          obtain ⟨j, e, q1, q2, q3, q4, q5⟩ := findM_some hfm
          rw [q4] at hd
          cases ok
          · exact ⟨y, by simp [Instr.lookup, run_underlying hund, MapKept.run_getObj_map g1, L.check w _ kv hok, hf, Result.andThen], rfl, by rw [← hd]; exact .v _ _⟩
          · exact ⟨.tuple #[y, .bool true], by simp [Instr.lookup, run_underlying hund, MapKept.run_getObj_map g1, L.check w _ kv hok, hf, Result.andThen], rfl, by rw [← hd]; exact htup _ _⟩
      · cases hv
    · cases hv
  · cases hv
end
end Go.Ab
