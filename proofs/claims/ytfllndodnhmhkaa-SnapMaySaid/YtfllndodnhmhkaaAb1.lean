/-
  ABSTRACT DATA FOR WALKS: definitions, what a value stands for, what memory holds. Program-independent.
-/
import Derived.Calls
import Derived.Below
import Derived.Laws.MakeOwn
import Derived.Laws.Append
import Derived.Laws.AppendOwn
import Derived.Laws.BytesString
import Derived.Laws.StructEq
namespace Go.Ab
set_option linter.unusedSimpArgs false
set_option linter.unusedVariables false

/-- Abstract data: plain values, aggregates by their cells, slices of memory that nobody writes any more (rows: an element's cells), pointers into such memory, slices and pointers into objects of one's own. -/
inductive D where
  | v (x : Value)
  | agg (cs : List D)
  | tup (ds : List D)
  | sl (full : Bool) (rows : List (List D))
  | ref (row : List D) (k : Nat)
  | own (id off len : Nat)
  | ptr (id i k : Nat)
  | fn (f : Fn) (nf : Nat) (caps : List D)
  | junk
  deriving Inhabited

mutual
/-- All ids that are named (not those within memory that nobody writes). -/
def D.all (p : Nat → Bool) : D → Bool
  | .own id _ _ => p id
  | .ptr id _ _ => p id
  | .agg cs => D.allL p cs
  | .tup cs => D.allL p cs
  | .fn _ _ cs => D.allL p cs
  | _ => true
def D.allL (p : Nat → Bool) : List D → Bool
  | [] => true
  | d :: ds => D.all p d && D.allL p ds
end

mutual
def D.kill (k : Nat) : D → D
  | .own id off len => if id = k then .junk else .own id off len
  | .ptr id i j => if id = k then .junk else .ptr id i j
  | .agg cs => .agg (D.killL k cs)
  | .tup cs => .tup (D.killL k cs)
  | .fn f nf cs => .fn f nf (D.killL k cs)
  | d => d
def D.killL (k : Nat) : List D → List D
  | [] => []
  | d :: ds => D.kill k d :: D.killL k ds
end

theorem D.allL_get {p : Nat → Bool} : ∀ {cs : List D}, D.allL p cs = true → ∀ {i : Nat} {d : D}, cs[i]? = some d → d.all p = true
  | [], _, i, d, h => by simp at h
  | c :: cs, ha, 0, d, h => by
    simp only [List.getElem?_cons_zero, Option.some.injEq] at h
    simp only [D.allL, Bool.and_eq_true] at ha
    exact h ▸ ha.1
  | c :: cs, ha, i + 1, d, h => by
    simp only [List.getElem?_cons_succ] at h
    simp only [D.allL, Bool.and_eq_true] at ha
    exact D.allL_get ha.2 h

theorem D.allL_of {p : Nat → Bool} : ∀ {cs : List D}, (∀ d ∈ cs, d.all p = true) → D.allL p cs = true
  | [], _ => rfl
  | c :: cs, h => by
    simp only [D.allL, Bool.and_eq_true]
    exact ⟨h c (by simp), D.allL_of fun d hd => h d (by simp [hd])⟩

theorem D.allL_append {p : Nat → Bool} (a b : List D) : D.allL p (a ++ b) = (D.allL p a && D.allL p b) := by
  induction a with
  | nil => simp [D.allL]
  | cons x a ih => simp [D.allL, ih, Bool.and_assoc]

theorem D.killL_length (k : Nat) : ∀ cs : List D, (D.killL k cs).length = cs.length
  | [] => rfl
  | c :: cs => by simp [D.killL, D.killL_length k cs]

theorem D.killL_get (k : Nat) : ∀ (cs : List D) (i : Nat), (D.killL k cs)[i]? = cs[i]?.map (D.kill k)
  | [], i => by simp [D.killL]
  | c :: cs, 0 => by simp [D.killL]
  | c :: cs, i + 1 => by simp [D.killL, D.killL_get k cs i]

structure Loc where
  blk : Option Nat
  off : Nat
  cap : Nat
  sz : Nat

abbrev Locs := Nat → Option Loc
abbrev Imm := Nat → Option (Array Value)
def noLocs : Locs := fun _ => none

/-- The value x stands for d: I is the memory that nobody writes any more, the locs say where objects of one's own lie. -/
inductive Rep (I : Imm) : Locs → D → Value → Prop where
  | v (ρ : Locs) (x : Value) : Rep I ρ (.v x) x
  | agg (ρ : Locs) (cs : List D) (vs : Array Value) (hl : cs.length = vs.size)
      (h : ∀ (i : Nat) (d : D) (x : Value), cs[i]? = some d → vs[i]? = some x → Rep I ρ d x) : Rep I ρ (.agg cs) (.agg vs)
  | tup (ρ : Locs) (cs : List D) (vs : Array Value) (hl : cs.length = vs.size)
      (h : ∀ (i : Nat) (d : D) (x : Value), cs[i]? = some d → vs[i]? = some x → Rep I ρ d x) : Rep I ρ (.tup cs) (.tuple vs)
  | nil (ρ : Locs) (full : Bool) (a : Option Addr) (cap : Nat) (hf : full = true → cap = 0) : Rep I ρ (.sl full []) (.slice a 0 cap)
  | sl (ρ : Locs) (full : Bool) (rows : List (List D)) (b o cap sz : Nat) (c : Array Value) (hI : I b = some c) (hsz : ∀ row ∈ rows, row.length = sz)
      (hc : o + rows.length * sz ≤ c.size) (hcap : rows.length ≤ cap) (hf : full = true → cap = rows.length) (h1 : ∀ (j : Nat) (x : Value), j < rows.length * sz → c[o + j]? = some x → x.oneCell' = true)
      (h : ∀ (i j : Nat) (row : List D) (d : D) (x : Value), rows[i]? = some row → row[j]? = some d → c[o + i * sz + j]? = some x → Rep I noLocs d x) :
      Rep I ρ (.sl full rows) (.slice (some ⟨b, o, none⟩) rows.length cap)
  | ref (ρ : Locs) (row : List D) (k b o : Nat) (c : Array Value) (hI : I b = some c) (hc : o + row.length ≤ c.size) (h1 : ∀ (j : Nat) (x : Value), j < row.length → c[o + j]? = some x → x.oneCell' = true)
      (h : ∀ (j : Nat) (d : D) (x : Value), row[j]? = some d → c[o + j]? = some x → Rep I noLocs d x) :
      Rep I ρ (.ref row k) (.pointer (some ⟨b, o + k, none⟩))
  | own (ρ : Locs) (id off len : Nat) (l : Loc) (a : Option Addr) (hl : ρ id = some l) (hcap : off + len ≤ l.cap)
      (ha : l.cap = off ∨ ∃ b, l.blk = some b ∧ a = some ⟨b, l.off + off * l.sz, none⟩) :
      Rep I ρ (.own id off len) (.slice a len (l.cap - off))
  | ptr (ρ : Locs) (id i k b : Nat) (l : Loc) (hl : ρ id = some l) (hb : l.blk = some b) :
      Rep I ρ (.ptr id i k) (.pointer (some ⟨b, l.off + i * l.sz + k, none⟩))
  | fn (ρ : Locs) (f : Fn) (nf : Nat) (cs : List D) (fs vs : Array Value) (hn : fs.size = nf) (hl : cs.length = (fs ++ vs).size)
      (h : ∀ (i : Nat) (d : D) (x : Value), cs[i]? = some d → (fs ++ vs)[i]? = some x → Rep I ρ d x) : Rep I ρ (.fn f nf cs) (.func f fs vs)
  | junk (ρ : Locs) (x : Value) : Rep I ρ .junk x

theorem Rep.imm {I J : Imm} (hij : ∀ b c, I b = some c → J b = some c) {ρ : Locs} {d : D} {x : Value} (h : Rep I ρ d x) : Rep J ρ d x := by
  induction h with
  | v ρ x => exact .v ρ x
  | agg ρ cs vs hl _ ih => exact .agg ρ cs vs hl ih
  | tup ρ cs vs hl _ ih => exact .tup ρ cs vs hl ih
  | nil ρ f a cap hf => exact .nil ρ f a cap hf
  | sl ρ f rows b o cap sz c hI hsz hc hcap hf h1 _ ih => exact .sl ρ f rows b o cap sz c (hij _ _ hI) hsz hc hcap hf h1 ih
  | ref ρ row k b o c hI hc h1 _ ih => exact .ref ρ row k b o c (hij _ _ hI) hc h1 ih
  | own ρ id off len l a hl hcap ha => exact .own ρ id off len l a hl hcap ha
  | ptr ρ id i k b l hl hb => exact .ptr ρ id i k b l hl hb
  | fn ρ f nf cs fs vs hn hl _ ih => exact .fn ρ f nf cs fs vs hn hl ih
  | junk ρ x => exact .junk ρ x

theorem Rep.locs {I : Imm} {ρ ρ' : Locs} {p : Nat → Bool} (hp : ∀ id, p id = true → ρ' id = ρ id) {d : D} {x : Value} (h : Rep I ρ d x) (ha : d.all p = true) : Rep I ρ' d x := by
  induction h with
  | v ρ x => exact .v _ x
  | agg ρ cs vs hl _ ih => exact .agg _ cs vs hl fun i d x h1 h2 => ih i d x h1 h2 hp (D.allL_get (by simpa [D.all] using ha) h1)
  | tup ρ cs vs hl _ ih => exact .tup _ cs vs hl fun i d x h1 h2 => ih i d x h1 h2 hp (D.allL_get (by simpa [D.all] using ha) h1)
  | nil ρ f a cap hf => exact .nil _ f a cap hf
  | sl ρ f rows b o cap sz c hI hsz hc hcap hf h1 h _ => exact .sl _ f rows b o cap sz c hI hsz hc hcap hf h1 h
  | ref ρ row k b o c hI hc h1 h _ => exact .ref _ row k b o c hI hc h1 h
  | own ρ id off len l a hl hcap ha' => exact .own _ id off len l a (by rw [hp id (by simpa [D.all] using ha)]; exact hl) hcap ha'
  | ptr ρ id i k b l hl hb => exact .ptr _ id i k b l (by rw [hp id (by simpa [D.all] using ha)]; exact hl) hb
  | fn ρ f nf cs fs vs hn hl _ ih => exact .fn _ f nf cs fs vs hn hl fun i d x h1 h2 => ih i d x h1 h2 hp (D.allL_get (by simpa [D.all] using ha) h1)
  | junk ρ x => exact .junk _ x

/-- What names no id stands for the same wherever objects lie. -/
theorem Rep.pure {I : Imm} {ρ ρ' : Locs} {d : D} {x : Value} (h : Rep I ρ d x) (ha : d.all (fun _ => false) = true) : Rep I ρ' d x :=
  h.locs (p := fun _ => false) (by simp) ha

theorem Rep.kill {I : Imm} {ρ ρ' : Locs} {k : Nat} (hp : ∀ id, id ≠ k → ρ' id = ρ id) {d : D} {x : Value} (h : Rep I ρ d x) : Rep I ρ' (d.kill k) x := by
  induction h with
  | v ρ x => exact .v _ x
  | agg ρ cs vs hl _ ih =>
    refine .agg _ _ vs (by rw [D.killL_length]; exact hl) fun i d x h1 h2 => ?_
    rw [D.killL_get] at h1
    cases h3 : cs[i]? with
    | none => simp [h3] at h1
    | some d' => simp [h3] at h1; exact h1 ▸ ih i d' x h3 h2 hp
  | tup ρ cs vs hl _ ih =>
    refine .tup _ _ vs (by rw [D.killL_length]; exact hl) fun i d x h1 h2 => ?_
    rw [D.killL_get] at h1
    cases h3 : cs[i]? with
    | none => simp [h3] at h1
    | some d' => simp [h3] at h1; exact h1 ▸ ih i d' x h3 h2 hp
  | nil ρ f a cap hf => exact .nil _ f a cap hf
  | sl ρ f rows b o cap sz c hI hsz hc hcap hf h1 h _ => exact .sl _ f rows b o cap sz c hI hsz hc hcap hf h1 h
  | ref ρ row k' b o c hI hc h1 h _ => exact .ref _ row k' b o c hI hc h1 h
  | own ρ id off len l a hl hcap ha' =>
    by_cases e : id = k
    · simp only [D.kill, e, if_true]; exact .junk _ _
    · simp only [D.kill, e, if_false]; exact .own _ id off len l a (by rw [hp id e]; exact hl) hcap ha'
  | ptr ρ id i j b l hl hb =>
    by_cases e : id = k
    · simp only [D.kill, e, if_true]; exact .junk _ _
    · simp only [D.kill, e, if_false]; exact .ptr _ id i j b l (by rw [hp id e]; exact hl) hb
  | fn ρ f nf cs fs vs hn hl _ ih =>
    refine .fn _ f _ _ fs vs hn (by rw [D.killL_length]; exact hl) fun i d x h1 h2 => ?_
    rw [D.killL_get] at h1
    cases h3 : cs[i]? with
    | none => simp [h3] at h1
    | some d' => simp [h3] at h1; exact h1 ▸ ih i d' x h3 h2 hp
  | junk ρ x => exact .junk _ x

mutual
theorem D.all_kill {p q : Nat → Bool} {k : Nat} (h : ∀ id, id ≠ k → p id = true → q id = true) : ∀ {d : D}, d.all p = true → (d.kill k).all q = true
  | .v _, _ => rfl
  | .agg cs, ha => by simp only [D.kill, D.all] at *; exact D.allL_kill h ha
  | .tup cs, ha => by simp only [D.kill, D.all] at *; exact D.allL_kill h ha
  | .sl _ _, _ => rfl
  | .ref _ _, _ => rfl
  | .own id _ _, ha => by
    simp only [D.kill]; split
    · rfl
    · rename_i e; simp only [D.all] at *; exact h _ e ha
  | .ptr id _ _, ha => by
    simp only [D.kill]; split
    · rfl
    · rename_i e; simp only [D.all] at *; exact h _ e ha
  | .fn _ _ cs, ha => by simp only [D.kill, D.all] at *; exact D.allL_kill h ha
  | .junk, _ => rfl
theorem D.allL_kill {p q : Nat → Bool} {k : Nat} (h : ∀ id, id ≠ k → p id = true → q id = true) : ∀ {cs : List D}, D.allL p cs = true → D.allL q (D.killL k cs) = true
  | [], _ => rfl
  | c :: cs, ha => by
    simp only [D.killL, D.allL, Bool.and_eq_true] at *
    exact ⟨D.all_kill h ha.1, D.allL_kill h ha.2⟩
end

mutual
theorem D.all_mono {p q : Nat → Bool} (h : ∀ id, p id = true → q id = true) : ∀ {d : D}, d.all p = true → d.all q = true
  | .v _, _ => rfl
  | .agg cs, ha => by simp only [D.all] at *; exact D.allL_mono h ha
  | .tup cs, ha => by simp only [D.all] at *; exact D.allL_mono h ha
  | .sl _ _, _ => rfl
  | .ref _ _, _ => rfl
  | .own id _ _, ha => by simp only [D.all] at *; exact h _ ha
  | .ptr id _ _, ha => by simp only [D.all] at *; exact h _ ha
  | .fn _ _ cs, ha => by simp only [D.all] at *; exact D.allL_mono h ha
  | .junk, _ => rfl
theorem D.allL_mono {p q : Nat → Bool} (h : ∀ id, p id = true → q id = true) : ∀ {cs : List D}, D.allL p cs = true → D.allL q cs = true
  | [], _ => rfl
  | c :: cs, ha => by
    simp only [D.allL, Bool.and_eq_true] at *
    exact ⟨D.all_mono h ha.1, D.allL_mono h ha.2⟩
end

/-- An object of one's own: rows of sz cells; 'mut': it may be written; 'flat': no cell of it names an id; 'pin': it lies where it lay when the call began. -/
structure AObj where
  sz : Nat
  rows : List (List D)
  wr : Bool := true
  flat : Bool := true
  pin : Bool := false

def AObj.all (p : Nat → Bool) (o : AObj) : Bool := o.flat || o.rows.all (D.allL p)
def AObj.kill (k : Nat) (o : AObj) : AObj := if o.flat then o else { o with rows := o.rows.map (D.killL k) }

/-- No cell below n is frozen (a mark may stand behind them). -/
def Unfr (n lo hi : Nat) : Prop := lo = hi ∨ n ≤ lo
theorem Unfr.no {n lo hi : Nat} (h : Unfr n lo hi) : ∀ j, j < n → ¬ (lo ≤ j ∧ j < hi) := fun j hj => by
  rcases h with h | h <;> omega

/-- Where an object lies in memory. -/
structure LaidObj (I : Imm) (ρ : Locs) (w : World) (o : AObj) (l : Loc) : Prop where
  sz : l.sz = o.sz
  pos : 0 < o.sz
  rows : ∀ row ∈ o.rows, row.length = o.sz
  cap : o.rows.length ≤ l.cap
  mem : (l.blk = none ∧ l.cap = 0) ∨ ∃ b c e lo hi, l.blk = some b ∧ w.heap[b]? = some (.cells c e (lo, hi)) ∧ Unfr c.size lo hi ∧ l.off + l.cap * o.sz ≤ c.size ∧
    (o.wr = false → I b = some c) ∧ (o.wr = true → I b = none) ∧ (∀ (j : Nat) (x : Value), c[j]? = some x → x.oneCell' = true) ∧
    ∀ (i j : Nat) (row : List D) (d : D) (x : Value), o.rows[i]? = some row → row[j]? = some d → c[l.off + i * o.sz + j]? = some x → Rep I (if o.flat then noLocs else ρ) d x

/-- The world w is w0 but for new blocks and what lies in the blocks M. -/
structure Ext (M : Nat → Prop) (w0 w : World) : Prop where
  os : w.os = w0.os
  tape : w.tape = w0.tape
  output : w.output = w0.output
  size : w0.heap.size ≤ w.heap.size
  block : ∀ k, k < w0.heap.size → ¬ M k → w.heap[k]? = w0.heap[k]?

theorem Ext.refl (M : Nat → Prop) (w : World) : Ext M w w := ⟨rfl, rfl, rfl, Nat.le_refl _, fun _ _ _ => rfl⟩
theorem Ext.trans {M N : Nat → Prop} {a b c : World} (h : Ext M a b) (k : Ext N b c) (hN : ∀ x, N x → M x ∨ a.heap.size ≤ x) : Ext M a c :=
  ⟨k.os.trans h.os, k.tape.trans h.tape, k.output.trans h.output, Nat.le_trans h.size k.size, fun i hi hm =>
    (k.block i (Nat.lt_of_lt_of_le hi h.size) fun hn => by rcases hN i hn with h1 | h1; exact hm h1; omega).trans (h.block i hi hm)⟩
theorem Ext.below {w0 w : World} (h : Ext (fun _ => False) w0 w) : RowKit.Below w0.heap.size w0 w :=
  ⟨h.os, h.tape, h.output, h.size, fun k hk => h.block k hk (by simp)⟩

/-- The state of a call, abstractly. -/
structure St where
  n : Nat
  slots : Nat → Option D
  heap : Nat → Option AObj

def upd {α : Type} (f : Nat → Option α) (t : Nat) (d : α) : Nat → Option α := fun u => if u = t then some d else f u
def del {α : Type} (f : Nat → Option α) (t : Nat) : Nat → Option α := fun u => if u = t then none else f u
def killS (k : Nat) (f : Nat → Option D) : Nat → Option D := fun t => (f t).map (D.kill k)
def killH (k : Nat) (f : Nat → Option AObj) : Nat → Option AObj := fun t => if t = k then none else (f t).map (AObj.kill k)

def ImmOk (I : Imm) (w : World) : Prop := ∀ b c, I b = some c → ∃ e fr, w.heap[b]? = some (.cells c e fr)

structure Ent where
  w0 : World
  M : Nat → Prop
  I0 : Imm
  pin : Locs := noLocs

/-- Memory: the objects of h lie in w where ρ says. -/
structure Mem (I : Imm) (ρ : Locs) (h : Nat → Option AObj) (w : World) : Prop where
  laid : ∀ id o, h id = some o → ∃ l, ρ id = some l ∧ LaidObj I ρ w o l
  apart : ∀ i1 o1 l1 i2 o2 l2 b, h i1 = some o1 → o1.wr = true → ρ i1 = some l1 → l1.blk = some b → h i2 = some o2 → o2.wr = true → ρ i2 = some l2 → l2.blk = some b → i1 = i2
  imm : ImmOk I w

structure RB (E : Ent) (st : St) (a : Act) (w : World) (ρ : Locs) (I : Imm) : Prop where
  size : a.tmps.size = st.n
  defers : a.defers = []
  slots : ∀ t d, st.slots t = some d → t < st.n ∧ Rep I ρ d (a.tmps.getD t undef)
  mem : Mem I ρ st.heap w
  i0 : ∀ b c, E.I0 b = some c → I b = some c
  i1 : ∀ b c, I b = some c → E.I0 b = some c ∨ E.M b ∨ E.w0.heap.size ≤ b
  ext : Ext E.M E.w0 w
  fresh : ∀ id o l b, st.heap id = some o → o.wr = true → ρ id = some l → l.blk = some b → E.M b ∨ E.w0.heap.size ≤ b
  pins : ∀ id o, st.heap id = some o → o.pin = true → ρ id = E.pin id

def R (E : Ent) (st : St) (a : Act) (w : World) : Prop := ∃ ρ I, RB E st a w ρ I

end Go.Ab
