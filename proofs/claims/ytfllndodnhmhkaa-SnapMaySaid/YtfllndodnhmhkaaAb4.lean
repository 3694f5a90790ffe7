/-
  ABSTRACT DATA FOR WALKS, 4: the operations that only look, one by one.
-/
import Derived.Test.YtfllndodnhmhkaaAb3
namespace Go.Ab
set_option linter.unusedSimpArgs false
set_option linter.unusedVariables false

def D.atom : D → Bool
  | .v x => x.oneCell'
  | .sl _ _ | .ref _ _ | .own _ _ _ | .ptr _ _ _ | .fn _ _ _ => true
  | _ => false
def D.cells : D → List D
  | .agg cs => cs
  | d => [d]
def D.good : D → Bool
  | .agg _ => true
  | d => d.atom

theorem Rep.one {I : Imm} {ρ : Locs} {d : D} {x : Value} (h : Rep I ρ d x) (ha : d.atom = true) : x.oneCell' = true := by
  cases h <;> first | exact ha | rfl | (simp [D.atom] at ha)

theorem Value.cells_one {x : Value} (h : x.oneCell' = true) : x.cells = #[x] := by
  cases x <;> first | rfl | (simp [Value.oneCell'] at h)

theorem Rep.cells {I : Imm} {ρ : Locs} {d : D} {x : Value} (h : Rep I ρ d x) (hg : d.good = true) :
    x.cells.size = d.cells.length ∧ ∀ (i : Nat) (d' : D) (y : Value), d.cells[i]? = some d' → x.cells[i]? = some y → Rep I ρ d' y := by
  have key : d.atom = true → x.cells.size = 1 ∧ ∀ (i : Nat) (d' : D) (y : Value), [d][i]? = some d' → x.cells[i]? = some y → Rep I ρ d' y := by
    intro ha
    rw [Value.cells_one (h.one ha)]
    refine ⟨rfl, fun i d' y h1 h2 => ?_⟩
    cases i with
    | zero => simp at h1 h2; subst h1; subst h2; exact h
    | succ i => simp at h1
  cases h with
  | agg _ cs vs hl hh => exact ⟨by simp [Value.cells, D.cells, hl], fun i d' y h1 h2 => hh i d' y h1 h2⟩
  | v _ x => exact key (by simpa [D.good] using hg)
  | tup _ cs vs hl hh => simp [D.good, D.atom] at hg
  | nil _ f a cap hf => exact key rfl
  | sl _ f rows b o cap sz c hI hsz hc hcap hf h1 hh => exact key rfl
  | ref _ row k b o c hI hc h1 hh => exact key rfl
  | own _ id off len l a hl hcap ha => exact key rfl
  | ptr _ id i k b l hl hb => exact key rfl
  | fn _ f nf cs fs vs hn hl hh => exact key rfl
  | junk _ x => simp [D.good, D.atom] at hg

/-! ### plain operations on plain values -/

def sbin (op : BinOp) : Value → Value → Option (Prop × Value)
  | .int k a, .int k' b =>
    match op with
    | .shl => some (0 ≤ b, .int k (k.wrap (a * 2 ^ (min b.toNat k.bits))))
    | .shr => some (0 ≤ b, .int k (a.fdiv (2 ^ (min b.toNat k.bits))))
    | .add => some (k = k', .int k (k.wrap (a + b)))
    | .sub => some (k = k', .int k (k.wrap (a - b)))
    | .mul => some (k = k', .int k (k.wrap (a * b)))
    | .quo => some (k = k' ∧ b ≠ 0, .int k (k.wrap (a.tdiv b)))
    | .rem => some (k = k' ∧ b ≠ 0, .int k (a.tmod b))
    | .and => some (k = k', .int k (k.wrap (BitVec.ofInt k.bits a &&& BitVec.ofInt k.bits b).toNat))
    | .or => some (k = k', .int k (k.wrap (BitVec.ofInt k.bits a ||| BitVec.ofInt k.bits b).toNat))
    | .xor => some (k = k', .int k (k.wrap (BitVec.ofInt k.bits a ^^^ BitVec.ofInt k.bits b).toNat))
    | .andNot => some (k = k', .int k (k.wrap (BitVec.ofInt k.bits a &&& ~~~ BitVec.ofInt k.bits b).toNat))
    | .eql => some (k = k', .bool (a == b))
    | .neq => some (k = k', .bool (a != b))
    | .lss => some (k = k', .bool (a < b))
    | .leq => some (k = k', .bool (a ≤ b))
    | .gtr => some (k = k', .bool (a > b))
    | .geq => some (k = k', .bool (a ≥ b))
  | .string a, .string b =>
    match op with
    | .add => some (((a.size + b.size : Nat) : Int) ≤ 9223372036854775807, .string (a ++ b))
    | .eql => some (True, .bool (a.toList == b.toList))
    | .neq => some (True, .bool !(a.toList == b.toList))
    | .lss => some (True, .bool (Op.bytesLess a.toList b.toList))
    | .gtr => some (True, .bool !(Op.bytesLess a.toList b.toList || a.toList == b.toList))
    | .leq => some (True, .bool (Op.bytesLess a.toList b.toList || a.toList == b.toList))
    | .geq => some (True, .bool !(Op.bytesLess a.toList b.toList))
    | _ => none
  | _, _ => none

section
variable {P : Program} {E : Ent} {st : St} {a : Act} {w : World} {ρ : Locs} {I : Imm}

theorem run_sbin {op : BinOp} {T : TypeId} {x y r : Value} {p : Prop} (h : sbin op x y = some (p, r)) (hp : p) : (binOp op T x y).run P w = .ok r w := by
  unfold sbin at h
  split at h
  · rename_i k m k' n
    cases op <;> simp only [Option.some.injEq, Prod.mk.injEq] at h <;> obtain ⟨rfl, rfl⟩ := h <;>
      first
        | (have hn : ¬ n < 0 := by omega
           simp [binOp, Op.shift, hn]; done)
        | (obtain ⟨rfl, hb⟩ := hp
           simp [binOp, Op.intDiv, hb]; done)
        | (subst hp; simp [binOp, Op.intArith, Op.intBits, Op.intCmp]; done)
  · rename_i m n
    cases op <;> first
      | (simp at h; done)
      | (simp only [Option.some.injEq, Prod.mk.injEq] at h; obtain ⟨rfl, rfl⟩ := h
         first
          | (have hn : ¬ 9223372036854775807 < ((m.size + n.size : Nat) : Int) := by omega
             simp only [binOp, Op.stringOp, Sem.run_ite]
             simp only [Int.natCast_add] at hn
             simp [hn]; done)
          | (simp [binOp, Op.stringOp]; done))
  · cases h

theorem run_eqGuard_plain {op : BinOp} {T : TypeId} {x y : Operand} {u v : Value} (h : ∀ cs ds, ¬ (u = .agg cs ∧ v = .agg ds)) (h' : ¬ (u = .nilIface ∧ v = .nilIface)) :
    (eqGuard op T x y u v).run P w = .ok () w := by
  unfold eqGuard
  split
  all_goals simp only [Bool.not_true, Bool.not_false, Bool.false_eq_true, if_false, if_true]
  all_goals try rfl
  all_goals
    split
    · exact absurd ⟨rfl, rfl⟩ h'
    · exact absurd ⟨rfl, rfl⟩ (h _ _)
    · rfl

end

def isPtrT : TypeDesc → Bool
  | .pointer _ => true
  | _ => false
def isBoolT : TypeDesc → Bool
  | .bool => true
  | _ => false

def aggEq : List D → List D → Option (Prop × Bool)
  | [], [] => some (True, true)
  | .v (.int k a) :: cs, .v (.int k' b) :: ds => match aggEq cs ds with
    | some (p, r) => some (k = k' ∧ p, (a == b) && r)
    | none => none
  | _, _ => none

/-- A binary operation, abstractly. -/
def dbin (tt : TypeId → Option TI) (op : BinOp) (T : TypeId) : D → D → Option (Prop × D)
  | .v (.bool x), .v (.bool y) => match tt T, op with
    | some ti, .eql => some (isBoolT ti.und = true, .v (.bool (x == y)))
    | some ti, .neq => some (isBoolT ti.und = true, .v (.bool (!(x == y))))
    | _, _ => none
  | .v (.pointer none), .v (.pointer none) => match tt T, op with
    | some ti, .eql => some (isPtrT ti.und = true, .v (.bool true))
    | some ti, .neq => some (isPtrT ti.und = true, .v (.bool false))
    | _, _ => none
  | .v x, .v y => (sbin op x y).map fun (p, r) => (p, .v r)
  | .ptr _ _ _, .v (.pointer none) | .v (.pointer none), .ptr _ _ _ | .ref _ _, .v (.pointer none) | .v (.pointer none), .ref _ _ => match tt T, op with
    | some ti, .eql => some (isPtrT ti.und = true, .v (.bool false))
    | some ti, .neq => some (isPtrT ti.und = true, .v (.bool true))
    | _, _ => none
  | .agg cs, .agg ds => match tt T, aggEq cs ds, op with
    | some ti, some (p, r), .eql => some (ti.eqk = true ∧ cs.length = ti.sz ∧ p, .v (.bool r))
    | some ti, some (p, r), .neq => some (ti.eqk = true ∧ cs.length = ti.sz ∧ p, .v (.bool (!r)))
    | _, _, _ => none
  | _, _ => none

section
variable {P : Program} {E : Ent} {st : St} {a : Act} {w : World} {ρ : Locs} {I : Imm} {tt : TypeId → Option TI}

theorem rep_v_inv {x y : Value} (h : Rep I ρ (.v x) y) : y = x := by cases h; rfl

theorem und_of {T : TypeId} {i : TI} (ht : TTok P tt) (h : tt T = some i) : P.underlying T = some i.und := (ht T i h).choose_spec.2.1

theorem run_equalIn_bool (d : Nat) {T : TypeId} (h : P.underlying T = some .bool) (x y : Bool) : (Op.equalIn (d + 1) T (.bool x) (.bool y)).run P w = .ok (x == y) w := by
  simp [Op.equalIn, run_underlying h]
theorem run_eql_bool {T : TypeId} (h : P.underlying T = some .bool) (x y : Bool) : (binOp .eql T (.bool x) (.bool y)).run P w = .ok (.bool (x == y)) w := by
  simp only [binOp]
  simp [Op.equal, Op.maxDepth, run_equalIn_bool 9999 h]
theorem run_neq_bool {T : TypeId} (h : P.underlying T = some .bool) (x y : Bool) : (binOp .neq T (.bool x) (.bool y)).run P w = .ok (.bool (!(x == y))) w := by
  simp only [binOp]
  simp [Op.equal, Op.maxDepth, run_equalIn_bool 9999 h]
theorem run_equalIn_nil (d : Nat) {T e : TypeId} (h : P.underlying T = some (.pointer e)) (b : Option Addr) : (Op.equalIn (d + 1) T (.pointer none) (.pointer b)).run P w = .ok b.isNone w := by
  simp [Op.equalIn, run_underlying h]
theorem run_equalIn_nil' (d : Nat) {T e : TypeId} (h : P.underlying T = some (.pointer e)) (b : Addr) : (Op.equalIn (d + 1) T (.pointer (some b)) (.pointer none)).run P w = .ok false w := by
  simp [Op.equalIn, run_underlying h]
theorem run_eql_nil {T e : TypeId} (h : P.underlying T = some (.pointer e)) (b : Option Addr) : (binOp .eql T (.pointer none) (.pointer b)).run P w = .ok (.bool b.isNone) w := by
  simp only [binOp]
  simp [Op.equal, Op.maxDepth, run_equalIn_nil 9999 h]
theorem run_neq_nil {T e : TypeId} (h : P.underlying T = some (.pointer e)) (b : Option Addr) : (binOp .neq T (.pointer none) (.pointer b)).run P w = .ok (.bool !b.isNone) w := by
  simp only [binOp]
  simp [Op.equal, Op.maxDepth, run_equalIn_nil 9999 h]
theorem run_eql_nil' {T e : TypeId} (h : P.underlying T = some (.pointer e)) (b : Addr) : (binOp .eql T (.pointer (some b)) (.pointer none)).run P w = .ok (.bool false) w := by
  simp only [binOp]
  simp [Op.equal, Op.maxDepth, run_equalIn_nil' 9999 h]
theorem run_neq_nil' {T e : TypeId} (h : P.underlying T = some (.pointer e)) (b : Addr) : (binOp .neq T (.pointer (some b)) (.pointer none)).run P w = .ok (.bool true) w := by
  simp only [binOp]
  simp [Op.equal, Op.maxDepth, run_equalIn_nil' 9999 h]

theorem isPtrT_inv {d : TypeDesc} (h : isPtrT d = true) : ∃ e, d = .pointer e := by
  cases d <;> first | exact ⟨_, rfl⟩ | (simp [isPtrT] at h)
theorem isBoolT_inv {d : TypeDesc} (h : isBoolT d = true) : d = .bool := by
  cases d <;> first | rfl | (simp [isBoolT] at h)

theorem isIntD_inv {d : Option TypeDesc} (h : isIntD d = true) : ∃ k, d = some (.int k) := by
  unfold isIntD at h
  split at h
  · exact ⟨_, rfl⟩
  · cases h

theorem run_eqFields (d : Nat) {xs ys : Array Value} : ∀ (fs : List Field) (n : Nat) (cs ds : List D) (p : Prop) (r : Bool), eqFs P n fs = true → fs.length = cs.length → aggEq cs ds = some (p, r) → p →
    (∀ (i : Nat) (e : D), cs[i]? = some e → ∃ x, xs[n + i]? = some x ∧ Rep I ρ e x) → (∀ (i : Nat) (e : D), ds[i]? = some e → ∃ x, ys[n + i]? = some x ∧ Rep I ρ e x) →
    (Op.eqFields (d + 1) xs ys fs).run P w = .ok r w
  | [], n, cs, ds, p, r, _, hl, ha, _, _, _ => by
    cases cs with
    | cons => simp at hl
    | nil =>
      cases ds with
      | cons => simp [aggEq] at ha
      | nil => simp [aggEq] at ha; simp [Op.eqFields, ha.2]
  | f :: fs, n, cs, ds, p, r, hf, hl, ha, hp, hx, hy => by
    cases cs with
    | nil => simp at hl
    | cons c cs =>
      cases ds with
      | nil => cases c with
        | v c => cases c <;> simp [aggEq] at ha
        | _ => simp [aggEq] at ha
      | cons e ds =>
        unfold aggEq at ha
        split at ha
        · cases ‹c :: cs = []›
        · rename_i k a cs' k' b ds' hc he
          cases hc; cases he
          split at ha
          · rename_i p' r' hrec
            simp only [Option.some.injEq, Prod.mk.injEq] at ha
            obtain ⟨rfl, rfl⟩ := ha
            obtain ⟨rfl, hp'⟩ := hp
            simp only [eqFs, Bool.and_eq_true, beq_iff_eq, bne_iff_ne, ne_eq] at hf
            obtain ⟨⟨⟨hn, ho⟩, hi⟩, hfs⟩ := hf
            obtain ⟨kk, hk⟩ := isIntD_inv hi
            obtain ⟨x, x1, x2⟩ := hx 0 _ rfl
            obtain ⟨y, y1, y2⟩ := hy 0 _ rfl
            cases rep_v_inv x2; cases rep_v_inv y2
            rw [Nat.add_zero] at x1 y1
            have ih := run_eqFields d fs (n + 1) cs ds p' r' hfs (by simpa using hl) hrec hp' (fun i e he => by have := hx (i + 1) e (by simpa using he); rwa [show n + (i + 1) = n + 1 + i by omega] at this)
              (fun i e he => by have := hy (i + 1) e (by simpa using he); rwa [show n + (i + 1) = n + 1 + i by omega] at this)
            have hagg : (isAgg f.type).run P w = .ok false w := by simp [isAgg, run_underlying hk]
            rw [Op.eqFields, if_pos (by simpa using hn)]
            have e1 : (part f.type xs f.offset).run P w = .ok (.int k a) w := by simp [part, hagg, ho, x1]
            have e2 : (part f.type ys f.offset).run P w = .ok (.int k b) w := by simp [part, hagg, ho, y1]
            rw [Sem.run_bind, e1, Result.andThen_ok, Sem.run_bind, e2, Result.andThen_ok, Sem.run_bind, run_equalIn_int w d f.type k kk a b hk, Result.andThen_ok]
            cases hab : (a == b)
            · simp
            · simp [ih]
          · cases ha
        · cases ha

theorem aggEq_len : ∀ {cs ds : List D} {p : Prop} {r : Bool}, aggEq cs ds = some (p, r) → cs.length = ds.length
  | [], [], _, _, _ => rfl
  | [], _ :: _, _, _, h => by simp [aggEq] at h
  | c :: cs, [], _, _, h => by
    cases c with
    | v c => cases c <;> simp [aggEq] at h
    | _ => simp [aggEq] at h
  | c :: cs, e :: ds, p, r, h => by
    unfold aggEq at h
    split at h
    · cases ‹c :: cs = []›
    · rename_i k a cs' k' b ds' hc he
      cases hc; cases he
      split at h
      · rename_i hrec
        simp [aggEq_len hrec]
      · cases h
    · cases h

theorem run_aggEq (ht : TTok P tt) {T : TypeId} {ti : TI} (hti : tt T = some ti) (hk : ti.eqk = true) {cs ds : List D} {p : Prop} {r : Bool} (ha : aggEq cs ds = some (p, r)) (hl : cs.length = ti.sz) (hp : p)
    {u v : Value} (hu : Rep I ρ (.agg cs) u) (hv : Rep I ρ (.agg ds) v) : ∃ xs ys, u = .agg xs ∧ v = .agg ys ∧ P.eqGuardType P.depth T = false ∧ (Op.equalIn 10000 T (.agg xs) (.agg ys)).run P w = .ok r w := by
  obtain ⟨info, t1, t2, t3, t4, t5, t6, t7, t8⟩ := ht T ti hti
  have h8 := t8 hk
  simp only [eqOkB, Bool.and_eq_true, Bool.not_eq_true', beq_iff_eq] at h8
  obtain ⟨⟨⟨⟨h1, h2⟩, h3⟩, h4⟩, h5⟩ := h8
  cases hu with
  | agg _ _ xs xl xh =>
    cases hv with
    | agg _ _ ys yl yh =>
      refine ⟨xs, ys, rfl, rfl, h3, ?_⟩
      have hund : ∃ fs, ti.und = .struct fs := by
        cases hq : ti.und <;> simp [hq, isStructD] at h1
        exact ⟨_, rfl⟩
      obtain ⟨fs, hfs⟩ := hund
      rw [hfs] at t2 h4 h5
      have hfo : P.fieldsOf T = fs := by simp [Program.fieldsOf, t2]
      rw [run_equalIn_struct w 9999 T xs ys (by rw [hfo]; exact t2) h2, hfo]
      have hcd := aggEq_len ha
      refine run_eqFields (I := I) (ρ := ρ) 9998 fs.toList 0 cs ds p r h5 (by rw [hl]; exact h4) ha hp (fun i e he => ?_) (fun i e he => ?_)
      · have hlt := (List.getElem?_eq_some_iff.1 he).1
        refine ⟨xs[i]'(by omega), by rw [Nat.zero_add]; exact Array.getElem?_eq_getElem (by omega), xh i e _ he (Array.getElem?_eq_getElem (by omega))⟩
      · have hlt := (List.getElem?_eq_some_iff.1 he).1
        refine ⟨ys[i]'(by omega), by rw [Nat.zero_add]; exact Array.getElem?_eq_getElem (by omega), yh i e _ he (Array.getElem?_eq_getElem (by omega))⟩

theorem run_dbin (ht : TTok P tt) {op : BinOp} {T : TypeId} {x y r : D} {p : Prop} {xo yo : Operand} {u v : Value} (h : dbin tt op T x y = some (p, r)) (hp : p)
    (hu : Rep I ρ x u) (hv : Rep I ρ y v) : ∃ z, (do eqGuard op T xo yo u v; binOp op T u v : Sem Value).run P w = .ok z w ∧ Rep I ρ r z := by
  unfold dbin at h
  split at h
  · cases rep_v_inv hu; cases rep_v_inv hv
    split at h <;> simp only [Option.some.injEq, Prod.mk.injEq, reduceCtorEq] at h
    all_goals
      rename_i ti hti
      obtain ⟨rfl, rfl⟩ := h
      refine ⟨_, ?_, .v _ _⟩
      have hu := und_of ht hti
      rw [isBoolT_inv hp] at hu
      rw [Sem.run_bind, run_eqGuard_plain (by simp) (by simp), Result.andThen_ok]
      first | rw [run_eql_bool hu] | rw [run_neq_bool hu]
  · cases rep_v_inv hu; cases rep_v_inv hv
    split at h <;> simp only [Option.some.injEq, Prod.mk.injEq, reduceCtorEq] at h
    all_goals
      rename_i ti hti
      obtain ⟨rfl, rfl⟩ := h
      refine ⟨_, ?_, .v _ _⟩
      have hu := und_of ht hti
      obtain ⟨e, he⟩ := isPtrT_inv hp
      rw [he] at hu
      rw [Sem.run_bind, run_eqGuard_plain (by simp) (by simp), Result.andThen_ok]
      first | rw [run_eql_nil hu] | rw [run_neq_nil hu]
      rfl
  · cases rep_v_inv hu; cases rep_v_inv hv
    cases hs : sbin op u v with
    | none => simp [hs] at h
    | some q =>
      obtain ⟨q1, q2⟩ := q
      simp only [hs, Option.map_some, Option.some.injEq, Prod.mk.injEq] at h
      obtain ⟨rfl, rfl⟩ := h
      refine ⟨q2, ?_, .v _ _⟩
      have h1 : ∀ cs ds, ¬ (u = .agg cs ∧ v = .agg ds) := by
        rintro cs ds ⟨rfl, rfl⟩; simp [sbin] at hs
      have h2 : ¬ (u = .nilIface ∧ v = .nilIface) := by
        rintro ⟨rfl, rfl⟩; simp [sbin] at hs
      rw [Sem.run_bind, run_eqGuard_plain h1 h2]
      exact run_sbin hs hp
  case h_8 cs ds =>
    split at h <;> simp only [Option.some.injEq, Prod.mk.injEq, reduceCtorEq] at h
    all_goals
      rename_i ti q r' hti hag
      obtain ⟨rfl, rfl⟩ := h
      obtain ⟨hk, hl, hq⟩ := hp
      obtain ⟨xs, ys, rfl, rfl, hg, hr⟩ := run_aggEq (w := w) ht hti hk hag hl hq hu hv
      refine ⟨_, ?_, .v _ _⟩
      rw [Sem.run_bind, run_eqGuard_agg w _ T xo yo xs ys hg, Result.andThen_ok]
      first | rw [run_eql_struct, hr] | rw [run_neq_struct, hr]
      rfl
  all_goals try (simp at h; done)
  all_goals
    cases hu; cases hv
    split at h <;> simp only [Option.some.injEq, Prod.mk.injEq, reduceCtorEq] at h
  all_goals
    rename_i ti hti
    obtain ⟨rfl, rfl⟩ := h
    refine ⟨_, ?_, .v _ _⟩
    have hu := und_of ht hti
    obtain ⟨e, he⟩ := isPtrT_inv hp
    rw [he] at hu
    rw [Sem.run_bind, run_eqGuard_plain (by simp) (by simp), Result.andThen_ok]
    first | rw [run_eql_nil' hu] | rw [run_neq_nil' hu] | (rw [run_eql_nil hu]; rfl) | (rw [run_neq_nil hu]; rfl)

def sun (op : UnOp) : D → Option (Prop × D)
  | .v (.int k n) => match op with
    | .neg => some (True, .v (.int k (k.wrap (0 - n))))
    | .xor => some (True, .v (.int k (k.wrap (BitVec.ofInt k.bits (if k.signed then -1 else k.max) ^^^ BitVec.ofInt k.bits n).toNat)))
    | _ => none
  | .v (.bool b) => match op with
    | .not => some (True, .v (.bool !b))
    | _ => none
  | _ => none

theorem run_sun {op : UnOp} {x r : D} {p : Prop} {u : Value} (h : sun op x = some (p, r)) (hu : Rep I ρ x u) : ∃ z, (Op.unary op u).run P w = .ok z w ∧ Rep I ρ r z := by
  unfold sun at h
  split at h
  · cases rep_v_inv hu
    split at h <;> simp only [Option.some.injEq, Prod.mk.injEq, reduceCtorEq] at h
    all_goals
      obtain ⟨rfl, rfl⟩ := h
      refine ⟨_, ?_, .v _ _⟩
      simp [Op.unary, Op.intArith, Op.intBits]
  · cases rep_v_inv hu
    split at h <;> simp only [Option.some.injEq, Prod.mk.injEq, reduceCtorEq] at h
    obtain ⟨rfl, rfl⟩ := h
    refine ⟨_, ?_, .v _ _⟩
    simp [Op.unary]
  · cases h

/-! ### loads -/

def valLoad (tt : TypeId → Option TI) (st : St) (T : TypeId) (x : D) : Option (Prop × D) :=
  match tt T, st.rowOf x with
  | some ti, some (p, row, k) => if isAggT ti.und = true then some (p ∧ k + ti.sz ≤ row.length, .agg ((row.drop k).take ti.sz)) else some (p ∧ k < row.length, row.getD k .junk)
  | _, _ => none

theorem run_isAgg {T : TypeId} {d : TypeDesc} (h : P.underlying T = some d) : (isAgg T).run P w = .ok (isAggT d) w := by
  simp only [isAgg, Sem.run_bind, run_underlying h, Result.andThen_ok]
  cases d <;> rfl

theorem run_sizeOf (ht : TTok P tt) {T : TypeId} {i : TI} (h : tt T = some i) : (sizeOf T).run P w = .ok i.sz w := by
  obtain ⟨info, h1, h2, h3, _⟩ := ht T i h
  simp [sizeOf, typeInfo, h1, h3]

theorem run_valLoad (ht : TTok P tt) (h : RB E st a w ρ I) {T : TypeId} {x r : D} {p : Prop} {u : Value} (hv : valLoad tt st T x = some (p, r)) (hp : p) (hu : Rep I ρ x u) :
    ∃ z, (Instr.loadAt T u).run P w = .ok z w ∧ Rep I ρ r z := by
  unfold valLoad at hv
  split at hv
  · rename_i ti q row k hti hrow
    have hund := und_of ht hti
    split at hv
    · rename_i hagg
      simp only [Option.some.injEq, Prod.mk.injEq] at hv
      obtain ⟨rfl, rfl⟩ := hv
      obtain ⟨b, o, rfl, hr⟩ := h.rowOf hrow hp.1 hu
      have hlen : ((row.drop k).take ti.sz).length = ti.sz := by simp; omega
      obtain ⟨cs, c1, c2, c3⟩ := ((hr.drop k).take ti.sz).load (P := P)
      rw [hlen] at c1 c2
      refine ⟨.agg cs.toArray, ?_, .agg _ _ _ (by simp; omega) fun i d x h1 h2 => c3 i d x h1 (by simpa using h2)⟩
      simp [Instr.loadAt, Instr.sureAddr, loadVar, run_isAgg hund, hagg, run_sizeOf ht hti, c2]
    · rename_i hagg
      simp only [Option.some.injEq, Prod.mk.injEq] at hv
      obtain ⟨rfl, rfl⟩ := hv
      obtain ⟨b, o, rfl, hr⟩ := h.rowOf hrow hp.1 hu
      obtain ⟨y, q1, q2, q3⟩ := hr k _ (List.getElem?_eq_getElem hp.2)
      refine ⟨y, ?_, by simpa [List.getD, List.getElem?_eq_getElem hp.2] using q3⟩
      simp [Instr.loadAt, Instr.sureAddr, loadVar, run_isAgg hund, hagg, q1]
  · cases hv

/-! ### parts of aggregates -/

def partD (fi : TI) (cs : List D) (off : Nat) : Prop × D :=
  if isAggT fi.und = true then (off + fi.sz ≤ cs.length, .agg ((cs.drop off).take fi.sz)) else (off < cs.length, cs.getD off .junk)

theorem run_part (ht : TTok P tt) {T : TypeId} {fi : TI} (hti : tt T = some fi) {cs : List D} {vs : Array Value} {off : Nat} (hl : cs.length = vs.size)
    (hh : ∀ (i : Nat) (d : D) (x : Value), cs[i]? = some d → vs[i]? = some x → Rep I ρ d x) (hp : (partD fi cs off).1) :
    ∃ z, (part T vs off).run P w = .ok z w ∧ Rep I ρ (partD fi cs off).2 z := by
  have hund := und_of ht hti
  unfold partD at *
  split at hp
  · rename_i hagg
    simp only [hagg, if_true]
    refine ⟨.agg (vs.extract off (off + fi.sz)), by simp [part, run_isAgg hund, hagg, run_sizeOf ht hti], .agg _ _ _ (by simp; omega) fun i d x h1 h2 => ?_⟩
    rw [List.getElem?_take] at h1
    split at h1
    · rename_i hi
      rw [List.getElem?_drop] at h1
      rw [Array.getElem?_extract] at h2
      split at h2
      · exact hh _ _ _ h1 h2
      · cases h2
    · cases h1
  · rename_i hagg
    simp only [hagg]
    have hlt : off < vs.size := by have := hp; simp only at this; omega
    refine ⟨vs[off], by simp [part, run_isAgg hund, hagg, Array.getElem?_eq_getElem hlt], ?_⟩
    have hp' : off < cs.length := hp
    simpa [List.getD, List.getElem?_eq_getElem hp'] using hh off _ _ (List.getElem?_eq_getElem hp') (Array.getElem?_eq_getElem hlt)

def valField (tt : TypeId → Option TI) (S : TypeId) (f : Nat) : D → Option (Prop × D)
  | .agg cs => match (tt S).map TI.und with
    | some (.struct fields) => match fields[f]? with
      | some fd => (tt fd.type).map fun fi => partD fi cs fd.offset
      | none => none
    | _ => none
  | _ => none

theorem run_valField (ht : TTok P tt) {S : TypeId} {f : Nat} {x r : D} {p : Prop} {u : Value} (hv : valField tt S f x = some (p, r)) (hp : p) (hu : Rep I ρ x u) :
    ∃ z, (Instr.field S u f).run P w = .ok z w ∧ Rep I ρ r z := by
  unfold valField at hv
  split at hv
  · split at hv
    · rename_i fields hS
      split at hv
      · rename_i fd hfd
        cases hfi : tt fd.type with
        | none => simp [hfi] at hv
        | some fi =>
          simp only [hfi, Option.map_some, Option.some.injEq] at hv
          cases hS' : tt S with
          | none => simp [hS'] at hS
          | some si =>
            simp only [hS', Option.map_some, Option.some.injEq] at hS
            have hund := und_of ht hS'
            rw [hS] at hund
            cases hu with
            | agg _ _ vs hl hh =>
              obtain ⟨z, z1, z2⟩ := run_part (w := w) ht hfi hl hh (off := fd.offset) (by rw [hv]; exact hp)
              rw [hv] at z2
              exact ⟨z, by simp [Instr.field, run_underlying hund, hfd, asAgg, z1], z2⟩
      · cases hv
    · cases hv
  · cases hv

def valIndex (tt : TypeId → Option TI) (T : TypeId) : D → D → Option (Prop × D)
  | .agg cs, .v (.int _ i) => match (tt T).map TI.und with
    | some (.array n e) => (tt e).map fun ei => ((0 ≤ i ∧ i < n) ∧ (partD ei cs (i.toNat * ei.sz)).1, (partD ei cs (i.toNat * ei.sz)).2)
    | _ => none
  | .v (.string s), .v (.int _ i) => match (tt T).map TI.und with
    | some .string => some (0 ≤ i ∧ i < s.size, .v (.int .u8 ((s.data.toList.getD i.toNat 0).toNat : Int)))
    | _ => none
  | _, _ => none

theorem run_valIndex (ht : TTok P tt) {T : TypeId} {x ix r : D} {p : Prop} {u v : Value} (hv : valIndex tt T x ix = some (p, r)) (hp : p) (hu : Rep I ρ x u) (hx : Rep I ρ ix v) :
    ∃ z, (Instr.index T u v).run P w = .ok z w ∧ Rep I ρ r z := by
  unfold valIndex at hv
  split at hv
  · cases rep_v_inv hx
    split at hv
    · rename_i n e hT
      cases hei : tt e with
      | none => simp [hei] at hv
      | some ei =>
        simp only [hei, Option.map_some, Option.some.injEq, Prod.mk.injEq] at hv
        obtain ⟨rfl, rfl⟩ := hv
        cases hT' : tt T with
        | none => simp [hT'] at hT
        | some si =>
          simp only [hT', Option.map_some, Option.some.injEq] at hT
          have hund := und_of ht hT'
          rw [hT] at hund
          cases hu with
          | agg _ _ vs hl hh =>
            obtain ⟨z, z1, z2⟩ := run_part (w := w) ht hei hl hh hp.2
            refine ⟨z, ?_, z2⟩
            simp [Instr.index, asIntOf, run_underlying hund, hp.1, run_sizeOf ht hei, z1]
    · cases hv
  · rename_i s k i
    cases rep_v_inv hx; cases rep_v_inv hu
    split at hv
    · rename_i hT
      simp only [Option.some.injEq, Prod.mk.injEq] at hv
      obtain ⟨rfl, rfl⟩ := hv
      cases hT' : tt T with
      | none => simp [hT'] at hT
      | some si =>
        simp only [hT', Option.map_some, Option.some.injEq] at hT
        have hund := und_of ht hT'
        rw [hT] at hund
        have hlt : i.toNat < s.size := by omega
        refine ⟨_, ?_, .v _ _⟩
        have e : s.data.toList.getD i.toNat 0 = s[i.toNat] := by
          have : i.toNat < s.data.toList.length := by simpa using hlt
          simp [List.getD, List.getElem?_eq_getElem this]; rfl
        rw [e]
        have e2 : s[i.toNat]? = some s[i.toNat] := getElem?_pos s i.toNat hlt
        simp [Instr.index, asIntOf, run_underlying hund, hp.1, e2]
    · cases hv
  · cases hv

end
end Go.Ab
