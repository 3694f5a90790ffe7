import Derived.Calls
import Derived.Below
import Derived.Laws.MakeOwn
import Derived.Laws.Append
import Derived.Laws.AppendOwn
import Derived.Laws.BytesString
import Derived.Laws.StructEq
namespace Go.Ab
set_option linter.unusedSimpArgs false
set_option linter.unusedVariables false
inductive D where
  | v (x : Value)
  | agg (cs : List D)
  | tup (ds : List D)
  | sl (full : Bool) (rows : List (List D))
  | ref (row : List D) (k : Nat)
  | own (id off len : Nat)
  | ptr (id i k : Nat)
  | fn (f : Fn) (nf : Nat) (caps : List D)
  | junk
  deriving Inhabited
mutual
def D.all (p : Nat → Bool) : D → Bool
  | .own id _ _ => p id
  | .ptr id _ _ => p id
  | .agg cs => D.allL p cs
  | .tup cs => D.allL p cs
  | .fn _ _ cs => D.allL p cs
  | _ => true
def D.allL (p : Nat → Bool) : List D → Bool
  | [] => true
  | d :: ds => D.all p d && D.allL p ds
end
mutual
def D.kill (k : Nat) : D → D
  | .own id off len => if id = k then .junk else .own id off len
  | .ptr id i j => if id = k then .junk else .ptr id i j
  | .agg cs => .agg (D.killL k cs)
  | .tup cs => .tup (D.killL k cs)
  | .fn f nf cs => .fn f nf (D.killL k cs)
  | d => d
def D.killL (k : Nat) : List D → List D
  | [] => []
  | d :: ds => D.kill k d :: D.killL k ds
end
theorem D.allL_get {p : Nat → Bool} : ∀ {cs : List D}, D.allL p cs = true → ∀ {i : Nat} {d : D}, cs[i]? = some d → d.all p = true
  | [], _, i, d, h => by simp at h
  | c :: cs, ha, 0, d, h => by
    simp only [List.getElem?_cons_zero, Option.some.injEq] at h
    simp only [D.allL, Bool.and_eq_true] at ha
    exact h ▸ ha.1
  | c :: cs, ha, i + 1, d, h => by
    simp only [List.getElem?_cons_succ] at h
    simp only [D.allL, Bool.and_eq_true] at ha
    exact D.allL_get ha.2 h
theorem D.killL_length (k : Nat) : ∀ cs : List D, (D.killL k cs).length = cs.length
  | [] => rfl
  | c :: cs => by simp [D.killL, D.killL_length k cs]
theorem D.killL_get (k : Nat) : ∀ (cs : List D) (i : Nat), (D.killL k cs)[i]? = cs[i]?.map (D.kill k)
  | [], i => by simp [D.killL]
  | c :: cs, 0 => by simp [D.killL]
  | c :: cs, i + 1 => by simp [D.killL, D.killL_get k cs i]
structure Loc where
  blk : Option Nat
  off : Nat
  cap : Nat
  sz : Nat
abbrev Locs := Nat → Option Loc
abbrev Imm := Nat → Option (Array Value)
def noLocs : Locs := fun _ => none
inductive Rep (I : Imm) : Locs → D → Value → Prop where
  | v (ρ : Locs) (x : Value) : Rep I ρ (.v x) x
  | agg (ρ : Locs) (cs : List D) (vs : Array Value) (hl : cs.length = vs.size)
      (h : ∀ (i : Nat) (d : D) (x : Value), cs[i]? = some d → vs[i]? = some x → Rep I ρ d x) : Rep I ρ (.agg cs) (.agg vs)
  | tup (ρ : Locs) (cs : List D) (vs : Array Value) (hl : cs.length = vs.size)
      (h : ∀ (i : Nat) (d : D) (x : Value), cs[i]? = some d → vs[i]? = some x → Rep I ρ d x) : Rep I ρ (.tup cs) (.tuple vs)
  | nil (ρ : Locs) (full : Bool) (a : Option Addr) (cap : Nat) (hf : full = true → cap = 0) : Rep I ρ (.sl full []) (.slice a 0 cap)
  | sl (ρ : Locs) (full : Bool) (rows : List (List D)) (b o cap sz : Nat) (c : Array Value) (hI : I b = some c) (hsz : ∀ row ∈ rows, row.length = sz)
      (hc : o + rows.length * sz ≤ c.size) (hcap : rows.length ≤ cap) (hf : full = true → cap = rows.length) (h1 : ∀ (j : Nat) (x : Value), j < rows.length * sz → c[o + j]? = some x → x.oneCell' = true)
      (h : ∀ (i j : Nat) (row : List D) (d : D) (x : Value), rows[i]? = some row → row[j]? = some d → c[o + i * sz + j]? = some x → Rep I noLocs d x) :
      Rep I ρ (.sl full rows) (.slice (some ⟨b, o, none⟩) rows.length cap)
  | ref (ρ : Locs) (row : List D) (k b o : Nat) (c : Array Value) (hI : I b = some c) (hc : o + row.length ≤ c.size) (h1 : ∀ (j : Nat) (x : Value), j < row.length → c[o + j]? = some x → x.oneCell' = true)
      (h : ∀ (j : Nat) (d : D) (x : Value), row[j]? = some d → c[o + j]? = some x → Rep I noLocs d x) :
      Rep I ρ (.ref row k) (.pointer (some ⟨b, o + k, none⟩))
  | own (ρ : Locs) (id off len : Nat) (l : Loc) (a : Option Addr) (hl : ρ id = some l) (hcap : off + len ≤ l.cap)
      (ha : l.cap = off ∨ ∃ b, l.blk = some b ∧ a = some ⟨b, l.off + off * l.sz, none⟩) :
      Rep I ρ (.own id off len) (.slice a len (l.cap - off))
  | ptr (ρ : Locs) (id i k b : Nat) (l : Loc) (hl : ρ id = some l) (hb : l.blk = some b) :
      Rep I ρ (.ptr id i k) (.pointer (some ⟨b, l.off + i * l.sz + k, none⟩))
  | fn (ρ : Locs) (f : Fn) (nf : Nat) (cs : List D) (fs vs : Array Value) (hn : fs.size = nf) (hl : cs.length = (fs ++ vs).size)
      (h : ∀ (i : Nat) (d : D) (x : Value), cs[i]? = some d → (fs ++ vs)[i]? = some x → Rep I ρ d x) : Rep I ρ (.fn f nf cs) (.func f fs vs)
  | junk (ρ : Locs) (x : Value) : Rep I ρ .junk x
theorem Rep.imm {I J : Imm} (hij : ∀ b c, I b = some c → J b = some c) {ρ : Locs} {d : D} {x : Value} (h : Rep I ρ d x) : Rep J ρ d x := by
  induction h with
  | v ρ x => exact .v ρ x
  | agg ρ cs vs hl _ ih => exact .agg ρ cs vs hl ih
  | tup ρ cs vs hl _ ih => exact .tup ρ cs vs hl ih
  | nil ρ f a cap hf => exact .nil ρ f a cap hf
  | sl ρ f rows b o cap sz c hI hsz hc hcap hf h1 _ ih => exact .sl ρ f rows b o cap sz c (hij _ _ hI) hsz hc hcap hf h1 ih
  | ref ρ row k b o c hI hc h1 _ ih => exact .ref ρ row k b o c (hij _ _ hI) hc h1 ih
  | own ρ id off len l a hl hcap ha => exact .own ρ id off len l a hl hcap ha
  | ptr ρ id i k b l hl hb => exact .ptr ρ id i k b l hl hb
  | fn ρ f nf cs fs vs hn hl _ ih => exact .fn ρ f nf cs fs vs hn hl ih
  | junk ρ x => exact .junk ρ x
theorem Rep.locs {I : Imm} {ρ ρ' : Locs} {p : Nat → Bool} (hp : ∀ id, p id = true → ρ' id = ρ id) {d : D} {x : Value} (h : Rep I ρ d x) (ha : d.all p = true) : Rep I ρ' d x := by
  induction h with
  | v ρ x => exact .v _ x
  | agg ρ cs vs hl _ ih => exact .agg _ cs vs hl fun i d x h1 h2 => ih i d x h1 h2 hp (D.allL_get (by simpa [D.all] using ha) h1)
  | tup ρ cs vs hl _ ih => exact .tup _ cs vs hl fun i d x h1 h2 => ih i d x h1 h2 hp (D.allL_get (by simpa [D.all] using ha) h1)
  | nil ρ f a cap hf => exact .nil _ f a cap hf
  | sl ρ f rows b o cap sz c hI hsz hc hcap hf h1 h _ => exact .sl _ f rows b o cap sz c hI hsz hc hcap hf h1 h
  | ref ρ row k b o c hI hc h1 h _ => exact .ref _ row k b o c hI hc h1 h
  | own ρ id off len l a hl hcap ha' => exact .own _ id off len l a (by rw [hp id (by simpa [D.all] using ha)]; exact hl) hcap ha'
  | ptr ρ id i k b l hl hb => exact .ptr _ id i k b l (by rw [hp id (by simpa [D.all] using ha)]; exact hl) hb
  | fn ρ f nf cs fs vs hn hl _ ih => exact .fn _ f nf cs fs vs hn hl fun i d x h1 h2 => ih i d x h1 h2 hp (D.allL_get (by simpa [D.all] using ha) h1)
  | junk ρ x => exact .junk _ x
theorem Rep.pure {I : Imm} {ρ ρ' : Locs} {d : D} {x : Value} (h : Rep I ρ d x) (ha : d.all (fun _ => false) = true) : Rep I ρ' d x :=
  h.locs (p := fun _ => false) (by simp) ha
theorem Rep.kill {I : Imm} {ρ ρ' : Locs} {k : Nat} (hp : ∀ id, id ≠ k → ρ' id = ρ id) {d : D} {x : Value} (h : Rep I ρ d x) : Rep I ρ' (d.kill k) x := by
  induction h with
  | v ρ x => exact .v _ x
  | agg ρ cs vs hl _ ih =>
    refine .agg _ _ vs (by rw [D.killL_length]; exact hl) fun i d x h1 h2 => ?_
    rw [D.killL_get] at h1
    cases h3 : cs[i]? with
    | none => simp [h3] at h1
    | some d' => simp [h3] at h1; exact h1 ▸ ih i d' x h3 h2 hp
  | tup ρ cs vs hl _ ih =>
    refine .tup _ _ vs (by rw [D.killL_length]; exact hl) fun i d x h1 h2 => ?_
    rw [D.killL_get] at h1
    cases h3 : cs[i]? with
    | none => simp [h3] at h1
    | some d' => simp [h3] at h1; exact h1 ▸ ih i d' x h3 h2 hp
  | nil ρ f a cap hf => exact .nil _ f a cap hf
  | sl ρ f rows b o cap sz c hI hsz hc hcap hf h1 h _ => exact .sl _ f rows b o cap sz c hI hsz hc hcap hf h1 h
  | ref ρ row k' b o c hI hc h1 h _ => exact .ref _ row k' b o c hI hc h1 h
  | own ρ id off len l a hl hcap ha' =>
    by_cases e : id = k
    · simp only [D.kill, e, if_true]; exact .junk _ _
    · simp only [D.kill, e, if_false]; exact .own _ id off len l a (by rw [hp id e]; exact hl) hcap ha'
  | ptr ρ id i j b l hl hb =>
    by_cases e : id = k
    · simp only [D.kill, e, if_true]; exact .junk _ _
    · simp only [D.kill, e, if_false]; exact .ptr _ id i j b l (by rw [hp id e]; exact hl) hb
  | fn ρ f nf cs fs vs hn hl _ ih =>
    refine .fn _ f _ _ fs vs hn (by rw [D.killL_length]; exact hl) fun i d x h1 h2 => ?_
    rw [D.killL_get] at h1
    cases h3 : cs[i]? with
    | none => simp [h3] at h1
    | some d' => simp [h3] at h1; exact h1 ▸ ih i d' x h3 h2 hp
  | junk ρ x => exact .junk _ x
mutual
theorem D.all_mono {p q : Nat → Bool} (h : ∀ id, p id = true → q id = true) : ∀ {d : D}, d.all p = true → d.all q = true
  | .v _, _ => rfl
  | .agg cs, ha => by simp only [D.all] at *; exact D.allL_mono h ha
  | .tup cs, ha => by simp only [D.all] at *; exact D.allL_mono h ha
  | .sl _ _, _ => rfl
  | .ref _ _, _ => rfl
  | .own id _ _, ha => by simp only [D.all] at *; exact h _ ha
  | .ptr id _ _, ha => by simp only [D.all] at *; exact h _ ha
  | .fn _ _ cs, ha => by simp only [D.all] at *; exact D.allL_mono h ha
  | .junk, _ => rfl
theorem D.allL_mono {p q : Nat → Bool} (h : ∀ id, p id = true → q id = true) : ∀ {cs : List D}, D.allL p cs = true → D.allL q cs = true
  | [], _ => rfl
  | c :: cs, ha => by
    simp only [D.allL, Bool.and_eq_true] at *
    exact ⟨D.all_mono h ha.1, D.allL_mono h ha.2⟩
end
structure AObj where
  sz : Nat
  rows : List (List D)
  wr : Bool := true
  flat : Bool := true
  pin : Bool := false
def AObj.all (p : Nat → Bool) (o : AObj) : Bool := o.flat || o.rows.all (D.allL p)
def AObj.kill (k : Nat) (o : AObj) : AObj := if o.flat then o else { o with rows := o.rows.map (D.killL k) }
def Unfr (n lo hi : Nat) : Prop := lo = hi ∨ n ≤ lo
theorem Unfr.no {n lo hi : Nat} (h : Unfr n lo hi) : ∀ j, j < n → ¬ (lo ≤ j ∧ j < hi) := fun j hj => by
  rcases h with h | h <;> omega
structure LaidObj (I : Imm) (ρ : Locs) (w : World) (o : AObj) (l : Loc) : Prop where
  sz : l.sz = o.sz
  pos : 0 < o.sz
  rows : ∀ row ∈ o.rows, row.length = o.sz
  cap : o.rows.length ≤ l.cap
  mem : (l.blk = none ∧ l.cap = 0) ∨ ∃ b c e lo hi, l.blk = some b ∧ w.heap[b]? = some (.cells c e (lo, hi)) ∧ Unfr c.size lo hi ∧ l.off + l.cap * o.sz ≤ c.size ∧
    (o.wr = false → I b = some c) ∧ (o.wr = true → I b = none) ∧ (∀ (j : Nat) (x : Value), c[j]? = some x → x.oneCell' = true) ∧
    ∀ (i j : Nat) (row : List D) (d : D) (x : Value), o.rows[i]? = some row → row[j]? = some d → c[l.off + i * o.sz + j]? = some x → Rep I (if o.flat then noLocs else ρ) d x
structure Ext (M : Nat → Prop) (w0 w : World) : Prop where
  os : w.os = w0.os
  tape : w.tape = w0.tape
  output : w.output = w0.output
  size : w0.heap.size ≤ w.heap.size
  block : ∀ k, k < w0.heap.size → ¬ M k → w.heap[k]? = w0.heap[k]?
theorem Ext.refl (M : Nat → Prop) (w : World) : Ext M w w := ⟨rfl, rfl, rfl, Nat.le_refl _, fun _ _ _ => rfl⟩
theorem Ext.trans {M N : Nat → Prop} {a b c : World} (h : Ext M a b) (k : Ext N b c) (hN : ∀ x, N x → M x ∨ a.heap.size ≤ x) : Ext M a c :=
  ⟨k.os.trans h.os, k.tape.trans h.tape, k.output.trans h.output, Nat.le_trans h.size k.size, fun i hi hm =>
    (k.block i (Nat.lt_of_lt_of_le hi h.size) fun hn => by rcases hN i hn with h1 | h1; exact hm h1; omega).trans (h.block i hi hm)⟩
theorem Ext.below {w0 w : World} (h : Ext (fun _ => False) w0 w) : RowKit.Below w0.heap.size w0 w :=
  ⟨h.os, h.tape, h.output, h.size, fun k hk => h.block k hk (by simp)⟩
inductive MKind where
  | int (k : IntKind)
  | str
  | pair (e : TypeId)
def MKind.ok : MKind → Value → Bool
  | .int k, .int k' _ => decide (k' = k)
  | .str, .string _ => true
  | .pair _, .agg vs => match vs.toList with
    | [.int k _, .int k' _] => decide (k = .i64) && decide (k' = .i64)
    | _ => false
  | _, _ => false
structure AMap where
  b : Nat
  kd : MKind
  es : List (Value × Value)
structure St where
  n : Nat
  slots : Nat → Option D
  heap : Nat → Option AObj
  mp : Option AMap := none
def upd {α : Type} (f : Nat → Option α) (t : Nat) (d : α) : Nat → Option α := fun u => if u = t then some d else f u
def killS (k : Nat) (f : Nat → Option D) : Nat → Option D := fun t => (f t).map (D.kill k)
def killH (k : Nat) (f : Nat → Option AObj) : Nat → Option AObj := fun t => if t = k then none else (f t).map (AObj.kill k)
def ImmOk (I : Imm) (w : World) : Prop := ∀ b c, I b = some c → ∃ e fr, w.heap[b]? = some (.cells c e fr)
structure Ent where
  w0 : World
  M : Nat → Prop
  I0 : Imm
  pin : Locs := noLocs
  dfs : List Deferred := []
structure Mem (I : Imm) (ρ : Locs) (h : Nat → Option AObj) (w : World) : Prop where
  laid : ∀ id o, h id = some o → ∃ l, ρ id = some l ∧ LaidObj I ρ w o l
  apart : ∀ i1 o1 l1 i2 o2 l2 b, h i1 = some o1 → o1.wr = true → ρ i1 = some l1 → l1.blk = some b → h i2 = some o2 → o2.wr = true → ρ i2 = some l2 → l2.blk = some b → i1 = i2
  imm : ImmOk I w
structure MapIn (E : Ent) (w : World) (m : AMap) : Prop where
  fresh : E.M m.b ∨ E.w0.heap.size ≤ m.b
  here : ∃ arr clock, w.heap[m.b]? = some (.map arr clock) ∧ arr.toList.map (fun e => (e.key, e.val)) = m.es
  keys : ∀ e ∈ m.es, m.kd.ok e.1 = true
theorem MapIn.keep {E : Ent} {w w' : World} {m : AMap} (h : MapIn E w m) (hh : w'.heap[m.b]? = w.heap[m.b]?) : MapIn E w' m :=
  ⟨h.fresh, by rw [hh]; exact h.here, h.keys⟩
theorem MapIn.lt {E : Ent} {w : World} {m : AMap} (h : MapIn E w m) : m.b < w.heap.size := by
  obtain ⟨arr, clock, h1, _⟩ := h.here
  rcases Nat.lt_or_ge m.b w.heap.size with h | h
  · exact h
  · simp [Array.getElem?_eq_none h] at h1
structure RB (E : Ent) (st : St) (a : Act) (w : World) (ρ : Locs) (I : Imm) : Prop where
  size : a.tmps.size = st.n
  defers : a.defers = E.dfs
  slots : ∀ t d, st.slots t = some d → t < st.n ∧ Rep I ρ d (a.tmps.getD t undef)
  mem : Mem I ρ st.heap w
  i0 : ∀ b c, E.I0 b = some c → I b = some c
  i1 : ∀ b c, I b = some c → E.I0 b = some c ∨ E.M b ∨ E.w0.heap.size ≤ b
  ext : Ext E.M E.w0 w
  fresh : ∀ id o l b, st.heap id = some o → o.wr = true → ρ id = some l → l.blk = some b → E.M b ∨ E.w0.heap.size ≤ b
  pins : ∀ id o, st.heap id = some o → o.pin = true → ρ id = E.pin id
  mp : ∀ m, st.mp = some m → MapIn E w m
def R (E : Ent) (st : St) (a : Act) (w : World) : Prop := ∃ ρ I, RB E st a w ρ I
end Go.Ab
namespace Go.Ab
set_option linter.unusedSimpArgs false
set_option linter.unusedVariables false
def updL (ρ : Locs) (id : Nat) (l : Loc) : Locs := fun k => if k = id then some l else ρ k
theorem updL_ne {ρ : Locs} {id : Nat} {l : Loc} : ∀ k, k ≠ id → updL ρ id l k = ρ k := fun k h => by simp [updL, h]
theorem updL_eq {ρ : Locs} {id : Nat} {l : Loc} : updL ρ id l id = some l := by simp [updL]
theorem noLocs_kill {I : Imm} {ρ' : Locs} {d : D} {x : Value} (h : Rep I noLocs d x) : Rep I ρ' d x := by
  generalize hρ : noLocs = ρ at h
  induction h with
  | v ρ x => exact .v _ x
  | agg ρ cs vs hl _ ih => exact .agg _ cs vs hl fun i d x h1 h2 => ih i d x h1 h2 hρ
  | tup ρ cs vs hl _ ih => exact .tup _ cs vs hl fun i d x h1 h2 => ih i d x h1 h2 hρ
  | nil ρ f a cap hf => exact .nil _ f a cap hf
  | sl ρ f rows b o cap sz c hI hsz hc hcap hf h1 h _ => exact .sl _ f rows b o cap sz c hI hsz hc hcap hf h1 h
  | ref ρ row k b o c hI hc h1 h _ => exact .ref _ row k b o c hI hc h1 h
  | own ρ id off len l a hl hcap ha => subst hρ; simp [noLocs] at hl
  | ptr ρ id i k b l hl hb => subst hρ; simp [noLocs] at hl
  | fn ρ f nf cs fs vs hn hl _ ih => exact .fn _ f nf cs fs vs hn hl fun i d x h1 h2 => ih i d x h1 h2 hρ
  | junk ρ x => exact .junk _ x
theorem map_killL_get {k : Nat} {rows : List (List D)} {i j : Nat} {row : List D} {d : D} (h1 : (rows.map (D.killL k))[i]? = some row) (h2 : row[j]? = some d) :
    ∃ row' d', rows[i]? = some row' ∧ row'[j]? = some d' ∧ d = d'.kill k := by
  rw [List.getElem?_map] at h1
  cases h3 : rows[i]? with
  | none => simp [h3] at h1
  | some row' =>
    simp only [h3, Option.map_some, Option.some.injEq] at h1
    subst h1
    rw [D.killL_get] at h2
    cases h4 : row'[j]? with
    | none => simp [h4] at h2
    | some d' => simp only [h4, Option.map_some, Option.some.injEq] at h2; exact ⟨row', d', rfl, h4, h2.symm⟩
theorem LaidObj.kept {I J : Imm} {ρ ρ' : Locs} {w w' : World} {o : AObj} {l : Loc} (h : LaidObj I ρ w o l) (hI : ∀ b c, I b = some c → J b = some c)
    (hb : ∀ b, l.blk = some b → w'.heap[b]? = w.heap[b]?) (hm : ∀ b, l.blk = some b → o.wr = true → I b = none → J b = none)
    (hρ : ∀ d x, Rep I ρ d x → Rep J ρ' d x) : LaidObj J ρ' w' o l := by
  refine ⟨h.sz, h.pos, h.rows, h.cap, ?_⟩
  rcases h.mem with h0 | ⟨b, c, e, lo, hi, h1, h2, h3, h4, h5, h6, hone, h7⟩
  · exact .inl h0
  · refine .inr ⟨b, c, e, lo, hi, h1, (hb b h1).trans h2, h3, h4, fun q => hI _ _ (h5 q), fun q => hm b h1 q (h6 q), hone, fun i j row d x q1 q2 q3 => ?_⟩
    have := h7 i j row d x q1 q2 q3
    cases hf : o.flat with
    | true => simp only [hf, if_true] at this ⊢; exact this.imm hI
    | false => simp only [hf] at this ⊢; exact hρ d x this
theorem LaidObj.killed {I : Imm} {ρ ρ' : Locs} {k : Nat} {w w' : World} {o : AObj} {l : Loc} (h : LaidObj I ρ w o l)
    (hb : ∀ b, l.blk = some b → w'.heap[b]? = w.heap[b]?) (hρ : ∀ id, id ≠ k → ρ' id = ρ id) : LaidObj I ρ' w' (o.kill k) l := by
  cases hf : o.flat with
  | true =>
    have : o.kill k = o := by simp [AObj.kill, hf]
    rw [this]
    refine ⟨h.sz, h.pos, h.rows, h.cap, ?_⟩
    rcases h.mem with h0 | ⟨b, c, e, lo, hi, h1, h2, h3, h4, h5, h6, hone, h7⟩
    · exact .inl h0
    · refine .inr ⟨b, c, e, lo, hi, h1, (hb b h1).trans h2, h3, h4, h5, h6, hone, fun i j row d x q1 q2 q3 => ?_⟩
      have := h7 i j row d x q1 q2 q3
      simp only [hf, if_true] at this ⊢; exact this
  | false =>
    have e0 : o.kill k = { o with rows := o.rows.map (D.killL k) } := by simp [AObj.kill, hf]
    rw [e0]
    refine ⟨h.sz, h.pos, ?_, by simpa using h.cap, ?_⟩
    · intro row hr
      simp only [List.mem_map] at hr
      obtain ⟨row', hr', rfl⟩ := hr
      rw [D.killL_length]; exact h.rows _ hr'
    rcases h.mem with h0 | ⟨b, c, e, lo, hi, h1, h2, h3, h4, h5, h6, hone, h7⟩
    · exact .inl h0
    · refine .inr ⟨b, c, e, lo, hi, h1, (hb b h1).trans h2, h3, h4, h5, h6, hone, fun i j row d x q1 q2 q3 => ?_⟩
      obtain ⟨row', d', r1, r2, rfl⟩ := map_killL_get q1 q2
      have := h7 i j row' d' x r1 r2 q3
      simp only [hf] at this ⊢
      exact this.kill hρ
theorem AObj.kill_wr {k : Nat} {o : AObj} : (o.kill k).wr = o.wr := by unfold AObj.kill; split <;> rfl
theorem AObj.kill_pin {k : Nat} {o : AObj} : (o.kill k).pin = o.pin := by unfold AObj.kill; split <;> rfl
theorem killH_some {k : Nat} {f : Nat → Option AObj} {id : Nat} {o : AObj} (h : killH k f id = some o) : id ≠ k ∧ ∃ o', f id = some o' ∧ o = o'.kill k := by
  unfold killH at h
  split at h
  · simp at h
  · rename_i hne
    cases h1 : f id with
    | none => simp [h1] at h
    | some o' => simp [h1] at h; exact ⟨hne, o', rfl, h.symm⟩
structure Rebind (st : St) (w w' : World) (ρ : Locs) (id : Nat) (bn : Nat) : Prop where
  os : w'.os = w.os
  tape : w'.tape = w.tape
  output : w'.output = w.output
  size : w.heap.size ≤ w'.heap.size
  other : ∀ k, k ≠ bn → k < w.heap.size → w'.heap[k]? = w.heap[k]?
  at_ : w.heap.size ≤ bn ∨ ∃ o l, st.heap id = some o ∧ o.wr = true ∧ ρ id = some l ∧ l.blk = some bn
theorem blk_lt {I : Imm} {ρ : Locs} {w : World} {o : AObj} {l : Loc} {b : Nat} (h : LaidObj I ρ w o l) (hb : l.blk = some b) : b < w.heap.size := by
  rcases h.mem with h0 | ⟨b', c, e, lo, hi, h1, h2, _⟩
  · rw [h0.1] at hb; cases hb
  · have hbb : b' = b := by rw [h1] at hb; exact Option.some.inj hb
    subst hbb
    rcases Nat.lt_or_ge b' w.heap.size with h | h
    · exact h
    · simp [Array.getElem?_eq_none h] at h2
theorem ImmOk.lt {I : Imm} {w : World} (h : ImmOk I w) {b : Nat} {c : Array Value} (hb : I b = some c) : b < w.heap.size := by
  obtain ⟨e, fr, h1⟩ := h b c hb
  rcases Nat.lt_or_ge b w.heap.size with h | h
  · exact h
  · simp [Array.getElem?_eq_none h] at h1
theorem LaidObj.mutImm {I : Imm} {ρ : Locs} {w : World} {o : AObj} {l : Loc} {b : Nat} (h : LaidObj I ρ w o l) (hm : o.wr = true) (hb : l.blk = some b) : I b = none := by
  rcases h.mem with h0 | ⟨b', c, e, lo, hi, h1, h2, h3, h4, h5, h6, _⟩
  · rw [h0.1] at hb; cases hb
  · rw [h1] at hb; cases hb; exact h6 hm
theorem LaidObj.immImm {I : Imm} {ρ : Locs} {w : World} {o : AObj} {l : Loc} {b : Nat} (h : LaidObj I ρ w o l) (hm : o.wr = false) (hb : l.blk = some b) : ∃ c, I b = some c := by
  rcases h.mem with h0 | ⟨b', c, e, lo, hi, h1, h2, h3, h4, h5, h6, _⟩
  · rw [h0.1] at hb; cases hb
  · rw [h1] at hb; cases hb; exact ⟨c, h5 hm⟩
section
variable {E : Ent} {st : St} {a : Act} {w w' : World} {ρ : Locs} {I : Imm}
theorem Rebind.apart {id bn : Nat} (hr : Rebind st w w' ρ id bn) (h : RB E st a w ρ I) {id2 : Nat} {o2 : AObj} {l2 : Loc} {b2 : Nat}
    (h2 : st.heap id2 = some o2) (hl2 : ρ id2 = some l2) (hb2 : l2.blk = some b2) (hne : id2 ≠ id) : b2 ≠ bn := by
  obtain ⟨l, e1, hlaid⟩ := h.mem.laid id2 o2 h2
  rw [hl2] at e1; cases e1
  rcases hr.at_ with hn | ⟨o, l, h3, h4, h5, h6⟩
  · have := blk_lt hlaid hb2; omega
  · intro e; subst e
    cases hm : o2.wr with
    | true => exact hne (h.mem.apart _ _ _ _ _ _ _ h2 hm hl2 hb2 h3 h4 h5 h6)
    | false =>
      obtain ⟨c, hc⟩ := hlaid.immImm hm hb2
      obtain ⟨l', e2, hlaid'⟩ := h.mem.laid id o h3
      rw [h5] at e2; cases e2
      rw [hlaid'.mutImm h4 h6] at hc; cases hc
theorem Rebind.imm {id bn : Nat} (hr : Rebind st w w' ρ id bn) (h : RB E st a w ρ I) : ImmOk I w' := by
  intro b c hb
  have hlt := h.mem.imm.lt hb
  have hne : b ≠ bn := by
    rcases hr.at_ with hn | ⟨o, l, h3, h4, h5, h6⟩
    · omega
    · intro e; subst e
      obtain ⟨l', e2, hlaid'⟩ := h.mem.laid id o h3
      rw [h5] at e2; cases e2
      rw [hlaid'.mutImm h4 h6] at hb; cases hb
  rw [hr.other b hne hlt]
  exact h.mem.imm b c hb
theorem Rebind.ext {id bn : Nat} (hr : Rebind st w w' ρ id bn) (h : RB E st a w ρ I) : Ext E.M E.w0 w' := by
  refine ⟨hr.os.trans h.ext.os, hr.tape.trans h.ext.tape, hr.output.trans h.ext.output, Nat.le_trans h.ext.size hr.size, fun k hk hm => ?_⟩
  have hne : k ≠ bn := by
    rcases hr.at_ with hn | ⟨o, l, h3, h4, h5, h6⟩
    · have := h.ext.size; omega
    · intro e; subst e
      rcases h.fresh id o l k h3 h4 h5 h6 with h1 | h1
      · exact hm h1
      · omega
  rw [hr.other k hne (Nat.lt_of_lt_of_le hk h.ext.size)]
  exact h.ext.block k hk hm
theorem Rebind.fresh {id bn : Nat} (hr : Rebind st w w' ρ id bn) (h : RB E st a w ρ I) : E.M bn ∨ E.w0.heap.size ≤ bn := by
  rcases hr.at_ with hn | ⟨o, l, h3, h4, h5, h6⟩
  · have := h.ext.size; right; omega
  · exact h.fresh id o l bn h3 h4 h5 h6
theorem LaidObj.notMap {o : AObj} {l : Loc} {b : Nat} (h : LaidObj I ρ w o l) (hb : l.blk = some b) {m : AMap} (hm : MapIn E w m) : m.b ≠ b := by
  intro e
  obtain ⟨arr, clock, h1, _⟩ := hm.here
  rcases h.mem with h0 | ⟨b', c, e', lo, hi, g1, g2, _⟩
  · rw [h0.1] at hb; cases hb
  · rw [g1] at hb; cases hb
    rw [e, g2] at h1; cases h1
theorem Rebind.map {id bn : Nat} (hr : Rebind st w w' ρ id bn) (h : RB E st a w ρ I) {m : AMap} (hm : MapIn E w m) : MapIn E w' m := by
  have hlt := hm.lt
  refine hm.keep (hr.other _ ?_ hlt)
  rcases hr.at_ with hn | ⟨o, l, h3, h4, h5, h6⟩
  · omega
  · obtain ⟨l', e2, hlaid'⟩ := h.mem.laid id o h3
    rw [h5] at e2; cases e2
    exact hlaid'.notMap h6 hm
theorem RB.rebind {id bn : Nat} (h : RB E st a w ρ I) (hr : Rebind st w w' ρ id bn) {o : AObj} {l : Loc} (hbn : l.blk = some bn ∨ l.blk = none)
    (hl : LaidObj I ρ w' o l) (hpin : o.pin = false := by rfl) : RB E { st with slots := killS id st.slots, heap := upd (killH id st.heap) id (o.kill id) } a w' (updL ρ id l) I where
  size := h.size
  defers := h.defers
  slots := by
    intro t d hd
    simp only [killS] at hd
    cases h1 : st.slots t with
    | none => simp [h1] at hd
    | some d' =>
      simp [h1] at hd; subst hd
      obtain ⟨q1, q2⟩ := h.slots t d' h1
      exact ⟨q1, q2.kill updL_ne⟩
  mem := by
    refine ⟨?_, ?_, hr.imm h⟩
    · intro id2 o2 h2
      simp only [upd] at h2
      split at h2
      · rename_i e; subst e; cases h2
        exact ⟨l, updL_eq, hl.killed (fun _ _ => rfl) updL_ne⟩
      · rename_i hne
        obtain ⟨_, o', h3, rfl⟩ := killH_some h2
        obtain ⟨l2, e2, hlaid⟩ := h.mem.laid id2 o' h3
        refine ⟨l2, by rw [updL_ne _ hne]; exact e2, hlaid.killed (fun b hb => ?_) updL_ne⟩
        exact hr.other b (hr.apart h h3 e2 hb hne) (blk_lt hlaid hb)
    · intro i1 o1 l1 i2 o2 l2 b h1 m1 e1 b1 h2 m2 e2 b2
      simp only [upd] at h1 h2
      by_cases c1 : i1 = id <;> by_cases c2 : i2 = id
      · omega
      · subst c1
        simp only [c2, if_false] at h2
        rw [updL_eq] at e1; cases e1
        rw [updL_ne _ c2] at e2
        obtain ⟨_, o', h3, rfl⟩ := killH_some h2
        have := hr.apart h h3 e2 b2 c2
        rcases hbn with q | q <;> rw [q] at b1 <;> cases b1
        exact absurd rfl this
      · subst c2
        simp only [c1, if_false] at h1
        rw [updL_eq] at e2; cases e2
        rw [updL_ne _ c1] at e1
        obtain ⟨_, o', h3, rfl⟩ := killH_some h1
        have := hr.apart h h3 e1 b1 c1
        rcases hbn with q | q <;> rw [q] at b2 <;> cases b2
        exact absurd rfl this
      · simp only [c1, if_false] at h1
        simp only [c2, if_false] at h2
        rw [updL_ne _ c1] at e1
        rw [updL_ne _ c2] at e2
        obtain ⟨_, o1', h3, rfl⟩ := killH_some h1
        obtain ⟨_, o2', h4, rfl⟩ := killH_some h2
        rw [AObj.kill_wr] at m1 m2
        exact h.mem.apart _ _ _ _ _ _ _ h3 m1 e1 b1 h4 m2 e2 b2
  i0 := h.i0
  i1 := h.i1
  ext := hr.ext h
  fresh := by
    intro i2 o2 l2 b h2 m2 e2 b2
    simp only [upd] at h2
    by_cases c2 : i2 = id
    · subst c2
      rw [updL_eq] at e2; cases e2
      rcases hbn with q | q <;> rw [q] at b2 <;> cases b2
      exact hr.fresh h
    · simp only [c2, if_false] at h2
      rw [updL_ne _ c2] at e2
      obtain ⟨_, o', h3, rfl⟩ := killH_some h2
      rw [AObj.kill_wr] at m2
      exact h.fresh _ _ _ _ h3 m2 e2 b2
  pins := by
    intro i2 o2 h2 hp
    simp only [upd] at h2
    by_cases c2 : i2 = id
    · subst c2
      simp only [if_true, Option.some.injEq] at h2
      rw [← h2, AObj.kill_pin, hpin] at hp; cases hp
    · simp only [c2, if_false] at h2
      rw [updL_ne _ c2]
      obtain ⟨_, o', h3, rfl⟩ := killH_some h2
      rw [AObj.kill_pin] at hp
      exact h.pins _ _ h3 hp
  mp := fun m hm => hr.map h (h.mp m hm)
theorem RB.write {id bn : Nat} (h : RB E st a w ρ I) (hr : Rebind st w w' ρ id bn) {o : AObj} {l : Loc} (hlo : ρ id = some l)
    (hold : ∃ o0, st.heap id = some o0 ∧ o0.wr = true ∧ (o.pin = true → o0.pin = true)) (hl : LaidObj I ρ w' o l) : RB E { st with heap := upd st.heap id o } a w' ρ I where
  size := h.size
  defers := h.defers
  slots := h.slots
  mem := by
    obtain ⟨o0, ho0, hm0, hpin⟩ := hold
    refine ⟨?_, ?_, hr.imm h⟩
    · intro id2 o2 h2
      simp only [upd] at h2
      split at h2
      · rename_i e; subst e; cases h2
        exact ⟨l, hlo, hl⟩
      · rename_i hne
        obtain ⟨l2, e2, hlaid⟩ := h.mem.laid id2 o2 h2
        refine ⟨l2, e2, hlaid.kept (fun _ _ q => q) (fun b hb => ?_) (fun _ _ _ q => q) (fun _ _ q => q)⟩
        exact hr.other b (hr.apart h h2 e2 hb hne) (blk_lt hlaid hb)
    · intro i1 o1 l1 i2 o2 l2 b h1 m1 e1 b1 h2 m2 e2 b2
      simp only [upd] at h1 h2
      by_cases c1 : i1 = id <;> by_cases c2 : i2 = id
      · omega
      · subst c1
        simp only [c2, if_false] at h2
        exact h.mem.apart _ _ _ _ _ _ _ ho0 hm0 e1 b1 h2 m2 e2 b2
      · subst c2
        simp only [c1, if_false] at h1
        exact h.mem.apart _ _ _ _ _ _ _ h1 m1 e1 b1 ho0 hm0 e2 b2
      · simp only [c1, if_false] at h1
        simp only [c2, if_false] at h2
        exact h.mem.apart _ _ _ _ _ _ _ h1 m1 e1 b1 h2 m2 e2 b2
  i0 := h.i0
  i1 := h.i1
  ext := hr.ext h
  fresh := by
    obtain ⟨o0, ho0, hm0, hpin⟩ := hold
    intro i2 o2 l2 b h2 m2 e2 b2
    simp only [upd] at h2
    by_cases c2 : i2 = id
    · subst c2
      exact h.fresh _ _ _ _ ho0 hm0 e2 b2
    · simp only [c2, if_false] at h2
      exact h.fresh _ _ _ _ h2 m2 e2 b2
  pins := by
    obtain ⟨o0, ho0, hm0, hpin⟩ := hold
    intro i2 o2 h2 hp
    simp only [upd] at h2
    by_cases c2 : i2 = id
    · subst c2
      simp only [if_true, Option.some.injEq] at h2
      exact h.pins _ _ ho0 (hpin (h2 ▸ hp))
    · simp only [c2, if_false] at h2
      exact h.pins _ _ h2 hp
  mp := fun m hm => hr.map h (h.mp m hm)
theorem RB.heapSame (h : RB E st a w ρ I) (hh : w'.heap = w.heap) (h1 : w'.os = w.os) (h2 : w'.tape = w.tape) (h3 : w'.output = w.output) : RB E st a w' ρ I where
  size := h.size
  defers := h.defers
  slots := h.slots
  mem := by
    refine ⟨fun id o ho => ?_, h.mem.apart, ?_⟩
    · obtain ⟨l, e, hl⟩ := h.mem.laid id o ho
      exact ⟨l, e, hl.kept (fun _ _ q => q) (fun b _ => by rw [hh]) (fun _ _ _ q => q) (fun _ _ q => q)⟩
    · intro b c hb; rw [hh]; exact h.mem.imm b c hb
  i0 := h.i0
  i1 := h.i1
  ext := ⟨h1.trans h.ext.os, h2.trans h.ext.tape, h3.trans h.ext.output, by rw [hh]; exact h.ext.size, fun k hk hm => by rw [hh]; exact h.ext.block k hk hm⟩
  fresh := h.fresh
  pins := h.pins
  mp := fun m hm => (h.mp m hm).keep (by rw [hh])
theorem RB.drew (h : RB E st a w ρ I) : RB E st a w.drew ρ I := h.heapSame rfl rfl rfl rfl
theorem getD_setIfInBounds (xs : Array Value) (t u : Nat) (x d : Value) : (xs.setIfInBounds t x).getD u d = if u = t ∧ t < xs.size then x else xs.getD u d := by
  simp only [Array.getD_eq_getD_getElem?, Array.getElem?_setIfInBounds]
  by_cases h : t = u
  · subst h
    by_cases h2 : t < xs.size
    · simp [h2]
    · simp [h2]
  · have : ¬ u = t := fun e => h e.symm
    simp [h, this]
def St.put (st : St) (dst : Option Tmp) (d : D) : St := match dst with | some t => { st with slots := upd st.slots t d } | none => st
def St.fits (st : St) (dst : Option Tmp) : Bool := match dst with | some t => decide (t < st.n) | none => true
theorem RB.put (h : RB E st a w ρ I) {dst : Option Tmp} {d : D} {x : Value} (hf : st.fits dst = true) (hd : Rep I ρ d x) : RB E (st.put dst d) (a.put dst x) w ρ I := by
  cases dst with
  | none => exact h
  | some t =>
    simp only [St.fits, decide_eq_true_eq] at hf
    refine ⟨by simpa [Act.put, St.put] using h.size, h.defers, ?_, h.mem, h.i0, h.i1, h.ext, h.fresh, h.pins, h.mp⟩
    intro u d' hd'
    simp only [St.put, upd] at hd'
    simp only [Act.put, getD_setIfInBounds]
    have hs : a.tmps.size = st.n := h.size
    by_cases e : u = t
    · subst e
      simp only [if_true, Option.some.injEq] at hd'
      subst hd'
      rw [if_pos ⟨rfl, by rw [hs]; exact hf⟩]
      exact ⟨hf, hd⟩
    · simp only [e, if_false] at hd'
      simp only [e, false_and, if_false]
      exact h.slots u d' hd'
theorem RB.weaken {st' : St} (h : RB E st a w ρ I) (hn : st'.n = st.n) (hs : ∀ t d, st'.slots t = some d → st.slots t = some d) (hh : ∀ id o, st'.heap id = some o → st.heap id = some o) (hmp : ∀ m, st'.mp = some m → st.mp = some m) : RB E st' a w ρ I where
  size := by rw [hn]; exact h.size
  defers := h.defers
  slots := fun t d hd => by rw [hn]; exact h.slots t d (hs t d hd)
  mem := ⟨fun id o ho => h.mem.laid id o (hh id o ho), fun i1 o1 l1 i2 o2 l2 b h1 m1 e1 b1 h2 m2 e2 b2 => h.mem.apart i1 o1 l1 i2 o2 l2 b (hh _ _ h1) m1 e1 b1 (hh _ _ h2) m2 e2 b2, h.mem.imm⟩
  i0 := h.i0
  i1 := h.i1
  ext := h.ext
  fresh := fun id o l b ho => h.fresh id o l b (hh id o ho)
  pins := fun id o ho => h.pins id o (hh id o ho)
  mp := fun m hm => h.mp m (hmp m hm)
def St.freeze (ids : List Nat) (st : St) : St := { st with heap := fun id => if ids.contains id then (st.heap id).map (fun o => { o with wr := false }) else st.heap id }
open Classical in
theorem RB.freeze (h : RB E st a w ρ I) (ids : List Nat) : ∃ J, (∀ b c, I b = some c → J b = some c) ∧ RB E (st.freeze ids) a w ρ J := by
  let hit (b : Nat) : Prop := ∃ id o l, id ∈ ids ∧ st.heap id = some o ∧ o.wr = true ∧ ρ id = some l ∧ l.blk = some b
  let cellsAt (b : Nat) : Option (Array Value) := match w.heap[b]? with | some (.cells c _ _) => some c | _ => none
  let J : Imm := fun b => if hit b then cellsAt b else I b
  have hJ : ∀ b c, I b = some c → J b = some c := by
    intro b c hb
    have : ¬ hit b := by
      rintro ⟨id, o, l, _, h1, h2, h3, h4⟩
      obtain ⟨l', e, hl⟩ := h.mem.laid id o h1
      rw [h3] at e; cases e
      rw [hl.mutImm h2 h4] at hb; cases hb
    show (if hit b then _ else _) = _
    rw [if_neg this]; exact hb
  refine ⟨J, hJ, h.size, h.defers, fun t d hd => ⟨(h.slots t d hd).1, (h.slots t d hd).2.imm hJ⟩, ⟨?_, ?_, ?_⟩, fun b c q => hJ b c (h.i0 b c q), ?_, h.ext, ?_, ?_, h.mp⟩
  · intro id o ho
    simp only [St.freeze] at ho
    split at ho
    · rename_i hin
      cases h1 : st.heap id with
      | none => simp [h1] at ho
      | some o0 =>
        simp only [h1, Option.map_some, Option.some.injEq] at ho
        obtain ⟨l, e, hl⟩ := h.mem.laid id o0 h1
        refine ⟨l, e, ?_⟩
        subst ho
        refine ⟨hl.sz, hl.pos, hl.rows, hl.cap, ?_⟩
        rcases hl.mem with h0 | ⟨b, c, el, lo, hi, q1, q2, q3, q4, q5, q6, hone, q7⟩
        · exact .inl h0
        · refine .inr ⟨b, c, el, lo, hi, q1, q2, q3, q4, fun _ => ?_, by simp, hone, fun i j row d x r1 r2 r3 => ?_⟩
          · cases hm : o0.wr with
            | false => exact hJ _ _ (q5 hm)
            | true =>
              have hb : hit b := ⟨id, o0, l, by simpa using hin, h1, hm, e, q1⟩
              show (if hit b then _ else _) = _
              rw [if_pos hb]; simp [cellsAt, q2]
          · exact (q7 i j row d x r1 r2 r3).imm hJ
    · rename_i hout
      obtain ⟨l, e, hl⟩ := h.mem.laid id o ho
      refine ⟨l, e, hl.kept hJ (fun _ _ => rfl) (fun b hb hm hn => ?_) (fun _ _ q => q.imm hJ)⟩
      have : ¬ hit b := by
        rintro ⟨id', o', l', hin', h1, h2, h3, h4⟩
        have := h.mem.apart _ _ _ _ _ _ _ h1 h2 h3 h4 ho hm e hb
        subst this
        exact hout (by simpa using hin')
      show (if hit b then _ else _) = _
      rw [if_neg this]; exact hn
  · intro i1 o1 l1 i2 o2 l2 b h1 m1 e1 b1 h2 m2 e2 b2
    have key : ∀ i o, (st.freeze ids).heap i = some o → o.wr = true → st.heap i = some o := by
      intro i o ho hm
      simp only [St.freeze] at ho
      split at ho
      · cases h1 : st.heap i with
        | none => simp [h1] at ho
        | some o0 => simp [h1] at ho; subst ho; simp at hm
      · exact ho
    exact h.mem.apart _ _ _ _ _ _ _ (key _ _ h1 m1) m1 e1 b1 (key _ _ h2 m2) m2 e2 b2
  · intro b c hb
    by_cases hh : hit b
    · have hb' : cellsAt b = some c := by
        have : J b = cellsAt b := if_pos hh
        rw [← this]; exact hb
      simp only [cellsAt] at hb'
      split at hb'
      · rename_i c' e fr hw
        cases hb'
        exact ⟨e, fr, hw⟩
      · cases hb'
    · have : J b = I b := if_neg hh
      rw [this] at hb
      exact h.mem.imm b c hb
  · intro b c hb
    by_cases hh : hit b
    · obtain ⟨id, o, l, _, h1, h2, h3, h4⟩ := hh
      exact .inr (h.fresh id o l b h1 h2 h3 h4)
    · have : J b = I b := if_neg hh
      rw [this] at hb
      exact h.i1 b c hb
  · intro id o l b ho hm
    simp only [St.freeze] at ho
    split at ho
    · cases h1 : st.heap id with
      | none => simp [h1] at ho
      | some o0 => simp [h1] at ho; subst ho; simp at hm
    · exact h.fresh id o l b ho hm
  · intro id o ho hm
    simp only [St.freeze] at ho
    split at ho
    · cases h1 : st.heap id with
      | none => simp [h1] at ho
      | some o0 => simp [h1] at ho; subst ho; exact h.pins id o0 h1 hm
    · exact h.pins id o ho hm
end
end Go.Ab
namespace Go.Ab
set_option linter.unusedSimpArgs false
set_option linter.unusedVariables false
structure TI where
  und : TypeDesc
  sz : Nat
  bytes : Nat
  zero : Value
  eqk : Bool
def isIntD : Option TypeDesc → Bool
  | some (.int _) => true
  | _ => false
def eqFs (P : Program) : Nat → List Field → Bool
  | _, [] => true
  | n, f :: fs => f.name != "_" && f.offset == n && isIntD (P.underlying f.type) && eqFs P (n + 1) fs
def descFs : TypeDesc → List Field
  | .struct fs => fs.toList
  | _ => []
def isStructD : TypeDesc → Bool
  | .struct _ => true
  | _ => false
def eqOkB (P : Program) (T : TypeId) (u : TypeDesc) (sz : Nat) : Bool :=
  isStructD u && !P.stoodInHeld T && !P.eqGuardType P.depth T && (descFs u).length == sz && eqFs P 0 (descFs u)
def TTok (P : Program) (tt : TypeId → Option TI) : Prop :=
  ∀ T i, tt T = some i → ∃ info, P.info? T = some info ∧ P.underlying T = some i.und ∧ info.size = i.sz ∧ info.bytes = i.bytes ∧ info.zero = some i.zero ∧ i.zero.cells.size = i.sz ∧ (i.zero.cells.all (·.oneCell')) = true ∧ (i.eqk = true → eqOkB P T i.und i.sz = true)
def isAggT : TypeDesc → Bool
  | .struct _ | .array _ _ => true
  | _ => false
def ofAtom : Value → D
  | .slice none 0 0 => .sl true []
  | x => .v x
def ofV : Value → D
  | .agg cs => .agg (cs.toList.map ofAtom)
  | x => ofAtom x
theorem rep_ofAtom (I : Imm) (ρ : Locs) (x : Value) : Rep I ρ (ofAtom x) x := by
  unfold ofAtom
  split
  · exact .nil _ _ _ _ (by simp)
  · exact .v _ _
theorem rep_ofV (I : Imm) (ρ : Locs) (x : Value) : Rep I ρ (ofV x) x := by
  unfold ofV
  split
  · rename_i cs
    refine .agg _ _ _ (by simp) fun i d x h1 h2 => ?_
    simp only [List.getElem?_map, Array.getElem?_toList] at h1
    rw [h2] at h1
    simp only [Option.map_some, Option.some.injEq] at h1
    exact h1 ▸ rep_ofAtom I ρ x
  · exact rep_ofAtom I ρ _
def St.ev (st : St) : Operand → Option D
  | .tmp t => st.slots t
  | .const x => some (ofV x)
  | .func f => some (.v (.func (.func f) #[] #[]))
  | .global _ => none
section
variable {P : Program} {E : Ent} {st : St} {a : Act} {w : World} {ρ : Locs} {I : Imm}
theorem RB.ev (h : RB E st a w ρ I) {x : Operand} {d : D} (hd : st.ev x = some d) : Rep I ρ d (a.eval x) := by
  cases x with
  | tmp t => exact (h.slots t d hd).2
  | const x => simp only [St.ev, Option.some.injEq] at hd; subst hd; exact rep_ofV I ρ x
  | func f => simp only [St.ev, Option.some.injEq] at hd; subst hd; exact .v _ _
  | global g => simp [St.ev] at hd
def RowAt (I : Imm) (ρ : Locs) (w : World) (row : List D) (b o : Nat) : Prop :=
  ∀ j d, row[j]? = some d → ∃ y, w.cell? ⟨b, o + j, none⟩ = some y ∧ y.oneCell' = true ∧ Rep I ρ d y
theorem RowAt.drop {row : List D} {b o : Nat} (h : RowAt I ρ w row b o) (k : Nat) : RowAt I ρ w (row.drop k) b (o + k) := by
  intro j d hd
  rw [List.getElem?_drop] at hd
  have := h (k + j) d hd
  rwa [← Nat.add_assoc] at this
theorem RowAt.take {row : List D} {b o : Nat} (h : RowAt I ρ w row b o) (k : Nat) : RowAt I ρ w (row.take k) b o := by
  intro j d hd
  rw [List.getElem?_take] at hd
  split at hd
  · exact h j d hd
  · cases hd
theorem cell_of_block {b k : Nat} {c : Array Value} {e : TypeId} {fr : Nat × Nat} (h : w.heap[b]? = some (.cells c e fr)) : w.cell? ⟨b, k, none⟩ = c[k]? := by
  simp [World.cell?, h]
theorem ImmOk.cell (h : ImmOk I w) {b k : Nat} {c : Array Value} (hb : I b = some c) : w.cell? ⟨b, k, none⟩ = c[k]? := by
  obtain ⟨e, fr, q⟩ := h b c hb
  exact cell_of_block q
structure Rows (I : Imm) (ρ : Locs) (w : World) (rows : List (List D)) (sz b o : Nat) : Prop where
  len : ∀ row ∈ rows, row.length = sz
  at_ : ∀ i row, rows[i]? = some row → RowAt I ρ w row b (o + i * sz)
theorem getD_rows {rows : List (List D)} {i : Nat} (h : i < rows.length) : rows[i]? = some (rows.getD i []) := by
  simp [List.getD, List.getElem?_eq_getElem h]
theorem mul_lt_of {i j n sz : Nat} (hi : i < n) (hj : j < sz) : i * sz + j < n * sz := by
  calc i * sz + j < i * sz + sz := by omega
    _ = (i + 1) * sz := by rw [Nat.add_mul, Nat.one_mul]
    _ ≤ n * sz := Nat.mul_le_mul_right _ hi
theorem rows_of_sl (hI : ImmOk I w) {full : Bool} {rows : List (List D)} {x : Value} (h : Rep I ρ (.sl full rows) x) :
    ∃ a cap, x = .slice a rows.length cap ∧ rows.length ≤ cap ∧ (full = true → cap = rows.length) ∧ (rows ≠ [] → ∃ b o sz, a = some ⟨b, o, none⟩ ∧ Rows I ρ w rows sz b o) := by
  cases h with
  | nil _ _ a cap hf => exact ⟨a, cap, rfl, by simp, by simpa using hf, by simp⟩
  | sl _ _ _ b o cap sz c hI' hsz hc hcap hf h1 hh =>
    refine ⟨_, cap, rfl, hcap, hf, fun _ => ⟨b, o, sz, rfl, hsz, fun i row hr j d hd => ?_⟩⟩
    have hi : i < rows.length := (List.getElem?_eq_some_iff.1 hr).1
    have hrl := hsz row (List.mem_of_getElem? hr)
    have hj : j < sz := by have := (List.getElem?_eq_some_iff.1 hd).1; omega
    have hlt := mul_lt_of hi hj
    have hcell : c[o + i * sz + j]? = some c[o + i * sz + j] := Array.getElem?_eq_getElem (by omega)
    refine ⟨c[o + i * sz + j]'(by omega), by rw [hI.cell hI']; exact hcell, h1 (i * sz + j) _ hlt (by rw [← Nat.add_assoc]; exact hcell), noLocs_kill (hh i j row d _ hr hd hcell)⟩
theorem rows_of_obj {o : AObj} {l : Loc} (hl : LaidObj I ρ w o l) (hne : o.rows ≠ []) : ∃ b, l.blk = some b ∧ Rows I ρ w o.rows o.sz b l.off := by
  rcases hl.mem with ⟨_, h0⟩ | ⟨b, c, e, lo, hi, q1, q2, q3, q4, q5, q6, hone, q7⟩
  · have := hl.cap
    cases hr : o.rows with
    | nil => exact absurd hr hne
    | cons r rs => simp [hr] at this; omega
  · refine ⟨b, q1, hl.rows, fun i row hr j d hd => ?_⟩
    have hi' : i < o.rows.length := (List.getElem?_eq_some_iff.1 hr).1
    have hrl := hl.rows row (List.mem_of_getElem? hr)
    have hj : j < o.sz := by have := (List.getElem?_eq_some_iff.1 hd).1; omega
    have h8 := mul_lt_of hi' hj
    have hlt : i * o.sz + j < l.cap * o.sz := Nat.lt_of_lt_of_le h8 (Nat.mul_le_mul_right _ hl.cap)
    have hcell : c[l.off + i * o.sz + j]? = some (c[l.off + i * o.sz + j]'(by omega)) := Array.getElem?_eq_getElem (by omega)
    refine ⟨_, by rw [cell_of_block q2]; exact hcell, hone _ _ hcell, ?_⟩
    have := q7 i j row d _ hr hd hcell
    cases hf : o.flat with
    | true => simp only [hf, if_true] at this; exact noLocs_kill this
    | false => simpa [hf] using this
theorem Rows.sub {rows : List (List D)} {sz b o : Nat} (h : Rows I ρ w rows sz b o) (k n : Nat) : Rows I ρ w ((rows.drop k).take n) sz b (o + k * sz) := by
  refine ⟨fun row hr => h.len row (List.mem_of_mem_drop (List.mem_of_mem_take hr)), fun i row hr => ?_⟩
  rw [List.getElem?_take] at hr
  split at hr
  · rw [List.getElem?_drop] at hr
    have := h.at_ _ _ hr
    rwa [Nat.add_mul, ← Nat.add_assoc] at this
  · cases hr
def St.rowsOf (st : St) : D → Option (Prop × List (List D))
  | .sl _ rows => some (True, rows)
  | .own id off len => match st.heap id with
    | some o => some (off + len ≤ o.rows.length, (o.rows.drop off).take len)
    | none => none
  | _ => none
theorem RB.rowsOf (h : RB E st a w ρ I) {d : D} {p : Prop} {rows : List (List D)} (hd : st.rowsOf d = some (p, rows)) (hp : p) {x : Value} (hx : Rep I ρ d x) :
    ∃ ad cap, x = .slice ad rows.length cap ∧ rows.length ≤ cap ∧ (rows ≠ [] → ∃ b o sz, ad = some ⟨b, o, none⟩ ∧ Rows I ρ w rows sz b o) := by
  cases d with
  | sl full rs =>
    simp only [St.rowsOf, Option.some.injEq, Prod.mk.injEq] at hd
    obtain ⟨_, rfl⟩ := hd
    obtain ⟨ad, cap, rfl, h1, _, h2⟩ := rows_of_sl h.mem.imm hx
    exact ⟨ad, cap, rfl, h1, h2⟩
  | own id off len =>
    simp only [St.rowsOf] at hd
    cases ho : st.heap id with
    | none => simp [ho] at hd
    | some o =>
      simp only [ho, Option.some.injEq, Prod.mk.injEq] at hd
      obtain ⟨rfl, rfl⟩ := hd
      obtain ⟨l, hl, hlaid⟩ := h.mem.laid id o ho
      cases hx with
      | own _ _ _ _ l' ad hl' hcap ha =>
        rw [hl] at hl'; cases hl'
        have hlen : ((o.rows.drop off).take len).length = len := by simp; omega
        refine ⟨ad, _, by rw [hlen], by omega, fun hne => ?_⟩
        have hne' : o.rows ≠ [] := by rintro e; simp [e] at hne
        obtain ⟨b, hb, hrows⟩ := rows_of_obj hlaid hne'
        have hlen0 : 0 < len := by rcases Nat.eq_zero_or_pos len with e | e; · subst e; simp at hne
                                   · exact e
        rcases ha with ha | ⟨b', hb', rfl⟩
        · omega
        · rw [hb] at hb'; cases hb'
          refine ⟨b, _, o.sz, rfl, ?_⟩
          have := hrows.sub off len
          rwa [hlaid.sz]
  | _ => simp [St.rowsOf] at hd
theorem Rows.load {rows : List (List D)} {sz b o : Nat} (h : Rows I ρ w rows sz b o) : ∃ cs : List Value, cs.length = rows.length * sz ∧
    (∀ j y, cs[j]? = some y → w.cell? ((⟨b, o, none⟩ : Addr).add j) = some y ∧ y.oneCell' = true) ∧
    ∀ (i j : Nat) (row : List D) (d : D) (x : Value), rows[i]? = some row → row[j]? = some d → cs[i * sz + j]? = some x → Rep I ρ d x := by
  refine ⟨(List.range (rows.length * sz)).map fun j => (w.cell? ⟨b, o + j, none⟩).getD undef, by simp, ?_, ?_⟩
  · intro j y hj
    rw [Addr.add_lit]
    have hlt : j < rows.length * sz := by
      have := (List.getElem?_eq_some_iff.1 hj).1
      simpa using this
    simp only [List.getElem?_map, List.getElem?_range hlt, Option.map_some, Option.some.injEq] at hj
    have hsz : 0 < sz := by rcases Nat.eq_zero_or_pos sz with e | e; · subst e; simp at hlt
                            · exact e
    have hi : j / sz < rows.length := by rw [Nat.div_lt_iff_lt_mul hsz]; exact hlt
    have hr := getD_rows hi
    have hrl := h.len _ (List.mem_of_getElem? hr)
    have hm : j % sz < (rows.getD (j / sz) []).length := by rw [hrl]; exact Nat.mod_lt _ hsz
    obtain ⟨y', q1, q2, q3⟩ := h.at_ _ _ hr (j % sz) _ (List.getElem?_eq_getElem hm)
    have e : o + j / sz * sz + j % sz = o + j := by
      have := Nat.div_add_mod' j sz; omega
    rw [e] at q1
    rw [q1] at hj
    simp at hj
    subst hj
    exact ⟨q1, q2⟩
  · intro i j row d x h1 h2 h3
    obtain ⟨y, q1, q2, q3⟩ := h.at_ i row h1 j d h2
    have hi := (List.getElem?_eq_some_iff.1 h1).1
    have hj := (List.getElem?_eq_some_iff.1 h2).1
    rw [h.len row (List.mem_of_getElem? h1)] at hj
    have hlt := mul_lt_of hi hj
    simp only [List.getElem?_map, List.getElem?_range hlt, Option.map_some, Option.some.injEq] at h3
    rw [← Nat.add_assoc, q1] at h3
    simp at h3
    exact h3 ▸ q3
def St.rowOf (st : St) : D → Option (Prop × List D × Nat)
  | .ref row k => some (True, row, k)
  | .ptr id i k => match st.heap id with
    | some o => some (i < o.rows.length, o.rows.getD i [], k)
    | none => none
  | _ => none
theorem RB.rowOf (h : RB E st a w ρ I) {d : D} {p : Prop} {row : List D} {k : Nat} (hd : st.rowOf d = some (p, row, k)) (hp : p) {x : Value} (hx : Rep I ρ d x) :
    ∃ b o, x = .pointer (some ⟨b, o + k, none⟩) ∧ RowAt I ρ w row b o := by
  cases d with
  | ref row' k' =>
    simp only [St.rowOf, Option.some.injEq, Prod.mk.injEq] at hd
    obtain ⟨_, rfl, rfl⟩ := hd
    cases hx with
    | ref _ _ _ b o c hI hc h1 hh =>
      refine ⟨b, o, rfl, fun j d hd => ?_⟩
      have hj := (List.getElem?_eq_some_iff.1 hd).1
      have hcell : c[o + j]? = some (c[o + j]'(by omega)) := Array.getElem?_eq_getElem (by omega)
      exact ⟨_, by rw [h.mem.imm.cell hI]; exact hcell, h1 j _ hj hcell, noLocs_kill (hh j d _ hd hcell)⟩
  | ptr id i k' =>
    simp only [St.rowOf] at hd
    cases ho : st.heap id with
    | none => simp [ho] at hd
    | some o =>
      simp only [ho, Option.some.injEq, Prod.mk.injEq] at hd
      obtain ⟨rfl, rfl, rfl⟩ := hd
      obtain ⟨l, hl, hlaid⟩ := h.mem.laid id o ho
      cases hx with
      | ptr _ _ _ _ b l' hl' hb =>
        rw [hl] at hl'; cases hl'
        obtain ⟨b', hb', hrows⟩ := rows_of_obj hlaid (by rintro e; simp [e] at hp)
        rw [hb] at hb'; cases hb'
        refine ⟨b, _, rfl, ?_⟩
        rw [hlaid.sz]
        exact hrows.at_ i _ (getD_rows hp)
  | _ => simp [St.rowOf] at hd
theorem RowAt.load {row : List D} {b o : Nat} (h : RowAt I ρ w row b o) : ∃ cs : List Value, cs.length = row.length ∧ (loadCells ⟨b, o, none⟩ row.length).run P w = .ok cs.toArray w ∧
    ∀ (i : Nat) (d : D) (x : Value), row[i]? = some d → cs[i]? = some x → Rep I ρ d x := by
  have h' : Rows I ρ w [row] row.length b o := ⟨by simp, fun i r hr => by
    cases i with
    | zero => simp at hr; subst hr; simpa using h
    | succ i => simp at hr⟩
  obtain ⟨cs, h1, h2, h3⟩ := h'.load
  simp at h1
  refine ⟨cs, h1, ?_, fun i d x hd hx => h3 0 i row d x (by simp) hd (by simpa using hx)⟩
  have := run_loadCells_list (P := P) w ⟨b, o, none⟩ cs (fun j v hv => (h2 j v hv).1)
  rwa [h1] at this
end
end Go.Ab
namespace Go.Ab
set_option linter.unusedSimpArgs false
set_option linter.unusedVariables false
def D.atom : D → Bool
  | .v x => x.oneCell'
  | .sl _ _ | .ref _ _ | .own _ _ _ | .ptr _ _ _ | .fn _ _ _ => true
  | _ => false
def D.cells : D → List D
  | .agg cs => cs
  | d => [d]
def D.good : D → Bool
  | .agg _ => true
  | d => d.atom
theorem Rep.one {I : Imm} {ρ : Locs} {d : D} {x : Value} (h : Rep I ρ d x) (ha : d.atom = true) : x.oneCell' = true := by
  cases h <;> first | exact ha | rfl | (simp [D.atom] at ha)
theorem Value.cells_one {x : Value} (h : x.oneCell' = true) : x.cells = #[x] := by
  cases x <;> first | rfl | (simp [Value.oneCell'] at h)
theorem Rep.cells {I : Imm} {ρ : Locs} {d : D} {x : Value} (h : Rep I ρ d x) (hg : d.good = true) :
    x.cells.size = d.cells.length ∧ ∀ (i : Nat) (d' : D) (y : Value), d.cells[i]? = some d' → x.cells[i]? = some y → Rep I ρ d' y := by
  have key : d.atom = true → x.cells.size = 1 ∧ ∀ (i : Nat) (d' : D) (y : Value), [d][i]? = some d' → x.cells[i]? = some y → Rep I ρ d' y := by
    intro ha
    rw [Value.cells_one (h.one ha)]
    refine ⟨rfl, fun i d' y h1 h2 => ?_⟩
    cases i with
    | zero => simp at h1 h2; subst h1; subst h2; exact h
    | succ i => simp at h1
  cases h with
  | agg _ cs vs hl hh => exact ⟨by simp [Value.cells, D.cells, hl], fun i d' y h1 h2 => hh i d' y h1 h2⟩
  | v _ x => exact key (by simpa [D.good] using hg)
  | tup _ cs vs hl hh => simp [D.good, D.atom] at hg
  | nil _ f a cap hf => exact key rfl
  | sl _ f rows b o cap sz c hI hsz hc hcap hf h1 hh => exact key rfl
  | ref _ row k b o c hI hc h1 hh => exact key rfl
  | own _ id off len l a hl hcap ha => exact key rfl
  | ptr _ id i k b l hl hb => exact key rfl
  | fn _ f nf cs fs vs hn hl hh => exact key rfl
  | junk _ x => simp [D.good, D.atom] at hg
def sbin (op : BinOp) : Value → Value → Option (Prop × Value)
  | .int k a, .int k' b =>
    match op with
    | .shl => some (0 ≤ b, .int k (k.wrap (a * 2 ^ (min b.toNat k.bits))))
    | .shr => some (0 ≤ b, .int k (a.fdiv (2 ^ (min b.toNat k.bits))))
    | .add => some (k = k', .int k (k.wrap (a + b)))
    | .sub => some (k = k', .int k (k.wrap (a - b)))
    | .mul => some (k = k', .int k (k.wrap (a * b)))
    | .quo => some (k = k' ∧ b ≠ 0, .int k (k.wrap (a.tdiv b)))
    | .rem => some (k = k' ∧ b ≠ 0, .int k (a.tmod b))
    | .and => some (k = k', .int k (k.wrap (BitVec.ofInt k.bits a &&& BitVec.ofInt k.bits b).toNat))
    | .or => some (k = k', .int k (k.wrap (BitVec.ofInt k.bits a ||| BitVec.ofInt k.bits b).toNat))
    | .xor => some (k = k', .int k (k.wrap (BitVec.ofInt k.bits a ^^^ BitVec.ofInt k.bits b).toNat))
    | .andNot => some (k = k', .int k (k.wrap (BitVec.ofInt k.bits a &&& ~~~ BitVec.ofInt k.bits b).toNat))
    | .eql => some (k = k', .bool (a == b))
    | .neq => some (k = k', .bool (a != b))
    | .lss => some (k = k', .bool (a < b))
    | .leq => some (k = k', .bool (a ≤ b))
    | .gtr => some (k = k', .bool (a > b))
    | .geq => some (k = k', .bool (a ≥ b))
  | .string a, .string b =>
    match op with
    | .add => some (((a.size + b.size : Nat) : Int) ≤ 9223372036854775807, .string (a ++ b))
    | .eql => some (True, .bool (a.toList == b.toList))
    | .neq => some (True, .bool !(a.toList == b.toList))
    | .lss => some (True, .bool (Op.bytesLess a.toList b.toList))
    | .gtr => some (True, .bool !(Op.bytesLess a.toList b.toList || a.toList == b.toList))
    | .leq => some (True, .bool (Op.bytesLess a.toList b.toList || a.toList == b.toList))
    | .geq => some (True, .bool !(Op.bytesLess a.toList b.toList))
    | _ => none
  | _, _ => none
section
variable {P : Program} {E : Ent} {st : St} {a : Act} {w : World} {ρ : Locs} {I : Imm}
theorem run_sbin {op : BinOp} {T : TypeId} {x y r : Value} {p : Prop} (h : sbin op x y = some (p, r)) (hp : p) : (binOp op T x y).run P w = .ok r w := by
  unfold sbin at h
  split at h
  · rename_i k m k' n
    cases op <;> simp only [Option.some.injEq, Prod.mk.injEq] at h <;> obtain ⟨rfl, rfl⟩ := h <;>
      first
        | (have hn : ¬ n < 0 := by omega
           simp [binOp, Op.shift, hn]; done)
        | (obtain ⟨rfl, hb⟩ := hp
           simp [binOp, Op.intDiv, hb]; done)
        | (subst hp; simp [binOp, Op.intArith, Op.intBits, Op.intCmp]; done)
  · rename_i m n
    cases op <;> first
      | (simp at h; done)
      | (simp only [Option.some.injEq, Prod.mk.injEq] at h; obtain ⟨rfl, rfl⟩ := h
         first
          | (have hn : ¬ 9223372036854775807 < ((m.size + n.size : Nat) : Int) := by omega
             simp only [binOp, Op.stringOp, Sem.run_ite]
             simp only [Int.natCast_add] at hn
             simp [hn]; done)
          | (simp [binOp, Op.stringOp]; done))
  · cases h
theorem run_eqGuard_plain {op : BinOp} {T : TypeId} {x y : Operand} {u v : Value} (h : ∀ cs ds, ¬ (u = .agg cs ∧ v = .agg ds)) (h' : ¬ (u = .nilIface ∧ v = .nilIface)) :
    (eqGuard op T x y u v).run P w = .ok () w := by
  unfold eqGuard
  split
  all_goals simp only [Bool.not_true, Bool.not_false, Bool.false_eq_true, if_false, if_true]
  all_goals try rfl
  all_goals
    split
    · exact absurd ⟨rfl, rfl⟩ h'
    · exact absurd ⟨rfl, rfl⟩ (h _ _)
    · rfl
end
def isPtrT : TypeDesc → Bool
  | .pointer _ => true
  | _ => false
def isBoolT : TypeDesc → Bool
  | .bool => true
  | _ => false
def aggEq : List D → List D → Option (Prop × Bool)
  | [], [] => some (True, true)
  | .v (.int k a) :: cs, .v (.int k' b) :: ds => match aggEq cs ds with
    | some (p, r) => some (k = k' ∧ p, (a == b) && r)
    | none => none
  | _, _ => none
def dbin (tt : TypeId → Option TI) (op : BinOp) (T : TypeId) : D → D → Option (Prop × D)
  | .v (.bool x), .v (.bool y) => match tt T, op with
    | some ti, .eql => some (isBoolT ti.und = true, .v (.bool (x == y)))
    | some ti, .neq => some (isBoolT ti.und = true, .v (.bool (!(x == y))))
    | _, _ => none
  | .v (.pointer none), .v (.pointer none) => match tt T, op with
    | some ti, .eql => some (isPtrT ti.und = true, .v (.bool true))
    | some ti, .neq => some (isPtrT ti.und = true, .v (.bool false))
    | _, _ => none
  | .v x, .v y => (sbin op x y).map fun (p, r) => (p, .v r)
  | .ptr _ _ _, .v (.pointer none) | .v (.pointer none), .ptr _ _ _ | .ref _ _, .v (.pointer none) | .v (.pointer none), .ref _ _ => match tt T, op with
    | some ti, .eql => some (isPtrT ti.und = true, .v (.bool false))
    | some ti, .neq => some (isPtrT ti.und = true, .v (.bool true))
    | _, _ => none
  | .agg cs, .agg ds => match tt T, aggEq cs ds, op with
    | some ti, some (p, r), .eql => some (ti.eqk = true ∧ cs.length = ti.sz ∧ p, .v (.bool r))
    | some ti, some (p, r), .neq => some (ti.eqk = true ∧ cs.length = ti.sz ∧ p, .v (.bool (!r)))
    | _, _, _ => none
  | _, _ => none
section
variable {P : Program} {E : Ent} {st : St} {a : Act} {w : World} {ρ : Locs} {I : Imm} {tt : TypeId → Option TI}
theorem rep_v_inv {x y : Value} (h : Rep I ρ (.v x) y) : y = x := by cases h; rfl
theorem und_of {T : TypeId} {i : TI} (ht : TTok P tt) (h : tt T = some i) : P.underlying T = some i.und := (ht T i h).choose_spec.2.1
theorem run_equalIn_bool (d : Nat) {T : TypeId} (h : P.underlying T = some .bool) (x y : Bool) : (Op.equalIn (d + 1) T (.bool x) (.bool y)).run P w = .ok (x == y) w := by
  simp [Op.equalIn, run_underlying h]
theorem run_eql_bool {T : TypeId} (h : P.underlying T = some .bool) (x y : Bool) : (binOp .eql T (.bool x) (.bool y)).run P w = .ok (.bool (x == y)) w := by
  simp only [binOp]
  simp [Op.equal, Op.maxDepth, run_equalIn_bool 9999 h]
theorem run_neq_bool {T : TypeId} (h : P.underlying T = some .bool) (x y : Bool) : (binOp .neq T (.bool x) (.bool y)).run P w = .ok (.bool (!(x == y))) w := by
  simp only [binOp]
  simp [Op.equal, Op.maxDepth, run_equalIn_bool 9999 h]
theorem run_equalIn_nil (d : Nat) {T e : TypeId} (h : P.underlying T = some (.pointer e)) (b : Option Addr) : (Op.equalIn (d + 1) T (.pointer none) (.pointer b)).run P w = .ok b.isNone w := by
  simp [Op.equalIn, run_underlying h]
theorem run_equalIn_nil' (d : Nat) {T e : TypeId} (h : P.underlying T = some (.pointer e)) (b : Addr) : (Op.equalIn (d + 1) T (.pointer (some b)) (.pointer none)).run P w = .ok false w := by
  simp [Op.equalIn, run_underlying h]
theorem run_eql_nil {T e : TypeId} (h : P.underlying T = some (.pointer e)) (b : Option Addr) : (binOp .eql T (.pointer none) (.pointer b)).run P w = .ok (.bool b.isNone) w := by
  simp only [binOp]
  simp [Op.equal, Op.maxDepth, run_equalIn_nil 9999 h]
theorem run_neq_nil {T e : TypeId} (h : P.underlying T = some (.pointer e)) (b : Option Addr) : (binOp .neq T (.pointer none) (.pointer b)).run P w = .ok (.bool !b.isNone) w := by
  simp only [binOp]
  simp [Op.equal, Op.maxDepth, run_equalIn_nil 9999 h]
theorem run_eql_nil' {T e : TypeId} (h : P.underlying T = some (.pointer e)) (b : Addr) : (binOp .eql T (.pointer (some b)) (.pointer none)).run P w = .ok (.bool false) w := by
  simp only [binOp]
  simp [Op.equal, Op.maxDepth, run_equalIn_nil' 9999 h]
theorem run_neq_nil' {T e : TypeId} (h : P.underlying T = some (.pointer e)) (b : Addr) : (binOp .neq T (.pointer (some b)) (.pointer none)).run P w = .ok (.bool true) w := by
  simp only [binOp]
  simp [Op.equal, Op.maxDepth, run_equalIn_nil' 9999 h]
theorem isPtrT_inv {d : TypeDesc} (h : isPtrT d = true) : ∃ e, d = .pointer e := by
  cases d <;> first | exact ⟨_, rfl⟩ | (simp [isPtrT] at h)
theorem isBoolT_inv {d : TypeDesc} (h : isBoolT d = true) : d = .bool := by
  cases d <;> first | rfl | (simp [isBoolT] at h)
theorem isIntD_inv {d : Option TypeDesc} (h : isIntD d = true) : ∃ k, d = some (.int k) := by
  unfold isIntD at h
  split at h
  · exact ⟨_, rfl⟩
  · cases h
theorem run_eqFields (d : Nat) {xs ys : Array Value} : ∀ (fs : List Field) (n : Nat) (cs ds : List D) (p : Prop) (r : Bool), eqFs P n fs = true → fs.length = cs.length → aggEq cs ds = some (p, r) → p →
    (∀ (i : Nat) (e : D), cs[i]? = some e → ∃ x, xs[n + i]? = some x ∧ Rep I ρ e x) → (∀ (i : Nat) (e : D), ds[i]? = some e → ∃ x, ys[n + i]? = some x ∧ Rep I ρ e x) →
    (Op.eqFields (d + 1) xs ys fs).run P w = .ok r w
  | [], n, cs, ds, p, r, _, hl, ha, _, _, _ => by
    cases cs with
    | cons => simp at hl
    | nil =>
      cases ds with
      | cons => simp [aggEq] at ha
      | nil => simp [aggEq] at ha; simp [Op.eqFields, ha.2]
  | f :: fs, n, cs, ds, p, r, hf, hl, ha, hp, hx, hy => by
    cases cs with
    | nil => simp at hl
    | cons c cs =>
      cases ds with
      | nil => cases c with
        | v c => cases c <;> simp [aggEq] at ha
        | _ => simp [aggEq] at ha
      | cons e ds =>
        unfold aggEq at ha
        split at ha
        · cases ‹c :: cs = []›
        · rename_i k a cs' k' b ds' hc he
          cases hc; cases he
          split at ha
          · rename_i p' r' hrec
            simp only [Option.some.injEq, Prod.mk.injEq] at ha
            obtain ⟨rfl, rfl⟩ := ha
            obtain ⟨rfl, hp'⟩ := hp
            simp only [eqFs, Bool.and_eq_true, beq_iff_eq, bne_iff_ne, ne_eq] at hf
            obtain ⟨⟨⟨hn, ho⟩, hi⟩, hfs⟩ := hf
            obtain ⟨kk, hk⟩ := isIntD_inv hi
            obtain ⟨x, x1, x2⟩ := hx 0 _ rfl
            obtain ⟨y, y1, y2⟩ := hy 0 _ rfl
            cases rep_v_inv x2; cases rep_v_inv y2
            rw [Nat.add_zero] at x1 y1
            have ih := run_eqFields d fs (n + 1) cs ds p' r' hfs (by simpa using hl) hrec hp' (fun i e he => by have := hx (i + 1) e (by simpa using he); rwa [show n + (i + 1) = n + 1 + i by omega] at this)
              (fun i e he => by have := hy (i + 1) e (by simpa using he); rwa [show n + (i + 1) = n + 1 + i by omega] at this)
            have hagg : (isAgg f.type).run P w = .ok false w := by simp [isAgg, run_underlying hk]
            rw [Op.eqFields, if_pos (by simpa using hn)]
            have e1 : (part f.type xs f.offset).run P w = .ok (.int k a) w := by simp [part, hagg, ho, x1]
            have e2 : (part f.type ys f.offset).run P w = .ok (.int k b) w := by simp [part, hagg, ho, y1]
            rw [Sem.run_bind, e1, Result.andThen_ok, Sem.run_bind, e2, Result.andThen_ok, Sem.run_bind, run_equalIn_int w d f.type k kk a b hk, Result.andThen_ok]
            cases hab : (a == b)
            · simp
            · simp [ih]
          · cases ha
        · cases ha
theorem aggEq_len : ∀ {cs ds : List D} {p : Prop} {r : Bool}, aggEq cs ds = some (p, r) → cs.length = ds.length
  | [], [], _, _, _ => rfl
  | [], _ :: _, _, _, h => by simp [aggEq] at h
  | c :: cs, [], _, _, h => by
    cases c with
    | v c => cases c <;> simp [aggEq] at h
    | _ => simp [aggEq] at h
  | c :: cs, e :: ds, p, r, h => by
    unfold aggEq at h
    split at h
    · cases ‹c :: cs = []›
    · rename_i k a cs' k' b ds' hc he
      cases hc; cases he
      split at h
      · rename_i hrec
        simp [aggEq_len hrec]
      · cases h
    · cases h
theorem run_aggEq (ht : TTok P tt) {T : TypeId} {ti : TI} (hti : tt T = some ti) (hk : ti.eqk = true) {cs ds : List D} {p : Prop} {r : Bool} (ha : aggEq cs ds = some (p, r)) (hl : cs.length = ti.sz) (hp : p)
    {u v : Value} (hu : Rep I ρ (.agg cs) u) (hv : Rep I ρ (.agg ds) v) : ∃ xs ys, u = .agg xs ∧ v = .agg ys ∧ P.eqGuardType P.depth T = false ∧ (Op.equalIn 10000 T (.agg xs) (.agg ys)).run P w = .ok r w := by
  obtain ⟨info, t1, t2, t3, t4, t5, t6, t7, t8⟩ := ht T ti hti
  have h8 := t8 hk
  simp only [eqOkB, Bool.and_eq_true, Bool.not_eq_true', beq_iff_eq] at h8
  obtain ⟨⟨⟨⟨h1, h2⟩, h3⟩, h4⟩, h5⟩ := h8
  cases hu with
  | agg _ _ xs xl xh =>
    cases hv with
    | agg _ _ ys yl yh =>
      refine ⟨xs, ys, rfl, rfl, h3, ?_⟩
      have hund : ∃ fs, ti.und = .struct fs := by
        cases hq : ti.und <;> simp [hq, isStructD] at h1
        exact ⟨_, rfl⟩
      obtain ⟨fs, hfs⟩ := hund
      rw [hfs] at t2 h4 h5
      have hfo : P.fieldsOf T = fs := by simp [Program.fieldsOf, t2]
      rw [run_equalIn_struct w 9999 T xs ys (by rw [hfo]; exact t2) h2, hfo]
      have hcd := aggEq_len ha
      refine run_eqFields (I := I) (ρ := ρ) 9998 fs.toList 0 cs ds p r h5 (by rw [hl]; exact h4) ha hp (fun i e he => ?_) (fun i e he => ?_)
      · have hlt := (List.getElem?_eq_some_iff.1 he).1
        refine ⟨xs[i]'(by omega), by rw [Nat.zero_add]; exact Array.getElem?_eq_getElem (by omega), xh i e _ he (Array.getElem?_eq_getElem (by omega))⟩
      · have hlt := (List.getElem?_eq_some_iff.1 he).1
        refine ⟨ys[i]'(by omega), by rw [Nat.zero_add]; exact Array.getElem?_eq_getElem (by omega), yh i e _ he (Array.getElem?_eq_getElem (by omega))⟩
theorem run_dbin (ht : TTok P tt) {op : BinOp} {T : TypeId} {x y r : D} {p : Prop} {xo yo : Operand} {u v : Value} (h : dbin tt op T x y = some (p, r)) (hp : p)
    (hu : Rep I ρ x u) (hv : Rep I ρ y v) : ∃ z, (do eqGuard op T xo yo u v; binOp op T u v : Sem Value).run P w = .ok z w ∧ Rep I ρ r z := by
  unfold dbin at h
  split at h
  · cases rep_v_inv hu; cases rep_v_inv hv
    split at h <;> simp only [Option.some.injEq, Prod.mk.injEq, reduceCtorEq] at h
    all_goals
      rename_i ti hti
      obtain ⟨rfl, rfl⟩ := h
      refine ⟨_, ?_, .v _ _⟩
      have hu := und_of ht hti
      rw [isBoolT_inv hp] at hu
      rw [Sem.run_bind, run_eqGuard_plain (by simp) (by simp), Result.andThen_ok]
      first | rw [run_eql_bool hu] | rw [run_neq_bool hu]
  · cases rep_v_inv hu; cases rep_v_inv hv
    split at h <;> simp only [Option.some.injEq, Prod.mk.injEq, reduceCtorEq] at h
    all_goals
      rename_i ti hti
      obtain ⟨rfl, rfl⟩ := h
      refine ⟨_, ?_, .v _ _⟩
      have hu := und_of ht hti
      obtain ⟨e, he⟩ := isPtrT_inv hp
      rw [he] at hu
      rw [Sem.run_bind, run_eqGuard_plain (by simp) (by simp), Result.andThen_ok]
      first | rw [run_eql_nil hu] | rw [run_neq_nil hu]
      rfl
  · cases rep_v_inv hu; cases rep_v_inv hv
    cases hs : sbin op u v with
    | none => simp [hs] at h
    | some q =>
      obtain ⟨q1, q2⟩ := q
      simp only [hs, Option.map_some, Option.some.injEq, Prod.mk.injEq] at h
      obtain ⟨rfl, rfl⟩ := h
      refine ⟨q2, ?_, .v _ _⟩
      have h1 : ∀ cs ds, ¬ (u = .agg cs ∧ v = .agg ds) := by
        rintro cs ds ⟨rfl, rfl⟩; simp [sbin] at hs
      have h2 : ¬ (u = .nilIface ∧ v = .nilIface) := by
        rintro ⟨rfl, rfl⟩; simp [sbin] at hs
      rw [Sem.run_bind, run_eqGuard_plain h1 h2]
      exact run_sbin hs hp
  case h_8 cs ds =>
    split at h <;> simp only [Option.some.injEq, Prod.mk.injEq, reduceCtorEq] at h
    all_goals
      rename_i ti q r' hti hag
      obtain ⟨rfl, rfl⟩ := h
      obtain ⟨hk, hl, hq⟩ := hp
      obtain ⟨xs, ys, rfl, rfl, hg, hr⟩ := run_aggEq (w := w) ht hti hk hag hl hq hu hv
      refine ⟨_, ?_, .v _ _⟩
      rw [Sem.run_bind, run_eqGuard_agg w _ T xo yo xs ys hg, Result.andThen_ok]
      first | rw [run_eql_struct, hr] | rw [run_neq_struct, hr]
      rfl
  all_goals try (simp at h; done)
  all_goals
    cases hu; cases hv
    split at h <;> simp only [Option.some.injEq, Prod.mk.injEq, reduceCtorEq] at h
  all_goals
    rename_i ti hti
    obtain ⟨rfl, rfl⟩ := h
    refine ⟨_, ?_, .v _ _⟩
    have hu := und_of ht hti
    obtain ⟨e, he⟩ := isPtrT_inv hp
    rw [he] at hu
    rw [Sem.run_bind, run_eqGuard_plain (by simp) (by simp), Result.andThen_ok]
    first | rw [run_eql_nil' hu] | rw [run_neq_nil' hu] | (rw [run_eql_nil hu]; rfl) | (rw [run_neq_nil hu]; rfl)
def sun (op : UnOp) : D → Option (Prop × D)
  | .v (.int k n) => match op with
    | .neg => some (True, .v (.int k (k.wrap (0 - n))))
    | .xor => some (True, .v (.int k (k.wrap (BitVec.ofInt k.bits (if k.signed then -1 else k.max) ^^^ BitVec.ofInt k.bits n).toNat)))
    | _ => none
  | .v (.bool b) => match op with
    | .not => some (True, .v (.bool !b))
    | _ => none
  | _ => none
theorem run_sun {op : UnOp} {x r : D} {p : Prop} {u : Value} (h : sun op x = some (p, r)) (hu : Rep I ρ x u) : ∃ z, (Op.unary op u).run P w = .ok z w ∧ Rep I ρ r z := by
  unfold sun at h
  split at h
  · cases rep_v_inv hu
    split at h <;> simp only [Option.some.injEq, Prod.mk.injEq, reduceCtorEq] at h
    all_goals
      obtain ⟨rfl, rfl⟩ := h
      refine ⟨_, ?_, .v _ _⟩
      simp [Op.unary, Op.intArith, Op.intBits]
  · cases rep_v_inv hu
    split at h <;> simp only [Option.some.injEq, Prod.mk.injEq, reduceCtorEq] at h
    obtain ⟨rfl, rfl⟩ := h
    refine ⟨_, ?_, .v _ _⟩
    simp [Op.unary]
  · cases h
def valLoad (tt : TypeId → Option TI) (st : St) (T : TypeId) (x : D) : Option (Prop × D) :=
  match tt T, st.rowOf x with
  | some ti, some (p, row, k) => if isAggT ti.und = true then some (p ∧ k + ti.sz ≤ row.length, .agg ((row.drop k).take ti.sz)) else some (p ∧ k < row.length, row.getD k .junk)
  | _, _ => none
theorem run_isAgg {T : TypeId} {d : TypeDesc} (h : P.underlying T = some d) : (isAgg T).run P w = .ok (isAggT d) w := by
  simp only [isAgg, Sem.run_bind, run_underlying h, Result.andThen_ok]
  cases d <;> rfl
theorem run_sizeOf (ht : TTok P tt) {T : TypeId} {i : TI} (h : tt T = some i) : (sizeOf T).run P w = .ok i.sz w := by
  obtain ⟨info, h1, h2, h3, _⟩ := ht T i h
  simp [sizeOf, typeInfo, h1, h3]
theorem run_valLoad (ht : TTok P tt) (h : RB E st a w ρ I) {T : TypeId} {x r : D} {p : Prop} {u : Value} (hv : valLoad tt st T x = some (p, r)) (hp : p) (hu : Rep I ρ x u) :
    ∃ z, (Instr.loadAt T u).run P w = .ok z w ∧ Rep I ρ r z := by
  unfold valLoad at hv
  split at hv
  · rename_i ti q row k hti hrow
    have hund := und_of ht hti
    split at hv
    · rename_i hagg
      simp only [Option.some.injEq, Prod.mk.injEq] at hv
      obtain ⟨rfl, rfl⟩ := hv
      obtain ⟨b, o, rfl, hr⟩ := h.rowOf hrow hp.1 hu
      have hlen : ((row.drop k).take ti.sz).length = ti.sz := by simp; omega
      obtain ⟨cs, c1, c2, c3⟩ := ((hr.drop k).take ti.sz).load (P := P)
      rw [hlen] at c1 c2
      refine ⟨.agg cs.toArray, ?_, .agg _ _ _ (by simp; omega) fun i d x h1 h2 => c3 i d x h1 (by simpa using h2)⟩
      simp [Instr.loadAt, Instr.sureAddr, loadVar, run_isAgg hund, hagg, run_sizeOf ht hti, c2]
    · rename_i hagg
      simp only [Option.some.injEq, Prod.mk.injEq] at hv
      obtain ⟨rfl, rfl⟩ := hv
      obtain ⟨b, o, rfl, hr⟩ := h.rowOf hrow hp.1 hu
      obtain ⟨y, q1, q2, q3⟩ := hr k _ (List.getElem?_eq_getElem hp.2)
      refine ⟨y, ?_, by simpa [List.getD, List.getElem?_eq_getElem hp.2] using q3⟩
      simp [Instr.loadAt, Instr.sureAddr, loadVar, run_isAgg hund, hagg, q1]
  · cases hv
def partD (fi : TI) (cs : List D) (off : Nat) : Prop × D :=
  if isAggT fi.und = true then (off + fi.sz ≤ cs.length, .agg ((cs.drop off).take fi.sz)) else (off < cs.length, cs.getD off .junk)
theorem run_part (ht : TTok P tt) {T : TypeId} {fi : TI} (hti : tt T = some fi) {cs : List D} {vs : Array Value} {off : Nat} (hl : cs.length = vs.size)
    (hh : ∀ (i : Nat) (d : D) (x : Value), cs[i]? = some d → vs[i]? = some x → Rep I ρ d x) (hp : (partD fi cs off).1) :
    ∃ z, (part T vs off).run P w = .ok z w ∧ Rep I ρ (partD fi cs off).2 z := by
  have hund := und_of ht hti
  unfold partD at *
  split at hp
  · rename_i hagg
    simp only [hagg, if_true]
    refine ⟨.agg (vs.extract off (off + fi.sz)), by simp [part, run_isAgg hund, hagg, run_sizeOf ht hti], .agg _ _ _ (by simp; omega) fun i d x h1 h2 => ?_⟩
    rw [List.getElem?_take] at h1
    split at h1
    · rename_i hi
      rw [List.getElem?_drop] at h1
      rw [Array.getElem?_extract] at h2
      split at h2
      · exact hh _ _ _ h1 h2
      · cases h2
    · cases h1
  · rename_i hagg
    simp only [hagg]
    have hlt : off < vs.size := by have := hp; simp only at this; omega
    refine ⟨vs[off], by simp [part, run_isAgg hund, hagg, Array.getElem?_eq_getElem hlt], ?_⟩
    have hp' : off < cs.length := hp
    simpa [List.getD, List.getElem?_eq_getElem hp'] using hh off _ _ (List.getElem?_eq_getElem hp') (Array.getElem?_eq_getElem hlt)
def valField (tt : TypeId → Option TI) (S : TypeId) (f : Nat) : D → Option (Prop × D)
  | .agg cs => match (tt S).map TI.und with
    | some (.struct fields) => match fields[f]? with
      | some fd => (tt fd.type).map fun fi => partD fi cs fd.offset
      | none => none
    | _ => none
  | _ => none
theorem run_valField (ht : TTok P tt) {S : TypeId} {f : Nat} {x r : D} {p : Prop} {u : Value} (hv : valField tt S f x = some (p, r)) (hp : p) (hu : Rep I ρ x u) :
    ∃ z, (Instr.field S u f).run P w = .ok z w ∧ Rep I ρ r z := by
  unfold valField at hv
  split at hv
  · split at hv
    · rename_i fields hS
      split at hv
      · rename_i fd hfd
        cases hfi : tt fd.type with
        | none => simp [hfi] at hv
        | some fi =>
          simp only [hfi, Option.map_some, Option.some.injEq] at hv
          cases hS' : tt S with
          | none => simp [hS'] at hS
          | some si =>
            simp only [hS', Option.map_some, Option.some.injEq] at hS
            have hund := und_of ht hS'
            rw [hS] at hund
            cases hu with
            | agg _ _ vs hl hh =>
              obtain ⟨z, z1, z2⟩ := run_part (w := w) ht hfi hl hh (off := fd.offset) (by rw [hv]; exact hp)
              rw [hv] at z2
              exact ⟨z, by simp [Instr.field, run_underlying hund, hfd, asAgg, z1], z2⟩
      · cases hv
    · cases hv
  · cases hv
def valIndex (tt : TypeId → Option TI) (T : TypeId) : D → D → Option (Prop × D)
  | .agg cs, .v (.int _ i) => match (tt T).map TI.und with
    | some (.array n e) => (tt e).map fun ei => ((0 ≤ i ∧ i < n) ∧ (partD ei cs (i.toNat * ei.sz)).1, (partD ei cs (i.toNat * ei.sz)).2)
    | _ => none
  | .v (.string s), .v (.int _ i) => match (tt T).map TI.und with
    | some .string => some (0 ≤ i ∧ i < s.size, .v (.int .u8 ((s.data.toList.getD i.toNat 0).toNat : Int)))
    | _ => none
  | _, _ => none
theorem run_valIndex (ht : TTok P tt) {T : TypeId} {x ix r : D} {p : Prop} {u v : Value} (hv : valIndex tt T x ix = some (p, r)) (hp : p) (hu : Rep I ρ x u) (hx : Rep I ρ ix v) :
    ∃ z, (Instr.index T u v).run P w = .ok z w ∧ Rep I ρ r z := by
  unfold valIndex at hv
  split at hv
  · cases rep_v_inv hx
    split at hv
    · rename_i n e hT
      cases hei : tt e with
      | none => simp [hei] at hv
      | some ei =>
        simp only [hei, Option.map_some, Option.some.injEq, Prod.mk.injEq] at hv
        obtain ⟨rfl, rfl⟩ := hv
        cases hT' : tt T with
        | none => simp [hT'] at hT
        | some si =>
          simp only [hT', Option.map_some, Option.some.injEq] at hT
          have hund := und_of ht hT'
          rw [hT] at hund
          cases hu with
          | agg _ _ vs hl hh =>
            obtain ⟨z, z1, z2⟩ := run_part (w := w) ht hei hl hh hp.2
            refine ⟨z, ?_, z2⟩
            simp [Instr.index, asIntOf, run_underlying hund, hp.1, run_sizeOf ht hei, z1]
    · cases hv
  · rename_i s k i
    cases rep_v_inv hx; cases rep_v_inv hu
    split at hv
    · rename_i hT
      simp only [Option.some.injEq, Prod.mk.injEq] at hv
      obtain ⟨rfl, rfl⟩ := hv
      cases hT' : tt T with
      | none => simp [hT'] at hT
      | some si =>
        simp only [hT', Option.map_some, Option.some.injEq] at hT
        have hund := und_of ht hT'
        rw [hT] at hund
        have hlt : i.toNat < s.size := by omega
        refine ⟨_, ?_, .v _ _⟩
        have e : s.data.toList.getD i.toNat 0 = s[i.toNat] := by
          have : i.toNat < s.data.toList.length := by simpa using hlt
          simp [List.getD, List.getElem?_eq_getElem this]; rfl
        rw [e]
        have e2 : s[i.toNat]? = some s[i.toNat] := getElem?_pos s i.toNat hlt
        simp [Instr.index, asIntOf, run_underlying hund, hp.1, e2]
    · cases hv
  · cases hv
end
end Go.Ab
namespace Go.Ab
set_option linter.unusedSimpArgs false
set_option linter.unusedVariables false
section
variable {P : Program} {E : Ent} {st : St} {a : Act} {w : World} {ρ : Locs} {I : Imm} {tt : TypeId → Option TI}
def valFieldAddr (tt : TypeId → Option TI) (S : TypeId) (f : Nat) (x : D) : Option (Prop × D) :=
  match (tt S).map TI.und with
  | some (.struct fields) => match fields[f]? with
    | some fd => match tt fd.type with
      | some fi => match x with
        | .ref row k => some (fi.sz ≠ 0, .ref row (k + fd.offset))
        | .ptr id i k => some (fi.sz ≠ 0, .ptr id i (k + fd.offset))
        | _ => none
      | none => none
    | none => none
  | _ => none
theorem run_valFieldAddr (ht : TTok P tt) {S : TypeId} {f : Nat} {x r : D} {p : Prop} {u : Value} (hv : valFieldAddr tt S f x = some (p, r)) (hp : p) (hu : Rep I ρ x u) :
    ∃ z, (Instr.fieldAt S u f).run P w = .ok z w ∧ Rep I ρ r z := by
  unfold valFieldAddr at hv
  split at hv
  · rename_i fields hS
    split at hv
    · rename_i fd hfd
      split at hv
      · rename_i fi hfi
        cases hS' : tt S with
        | none => simp [hS'] at hS
        | some si =>
          simp only [hS', Option.map_some, Option.some.injEq] at hS
          have hund := und_of ht hS'
          rw [hS] at hund
          split at hv
          · rename_i row k
            simp only [Option.some.injEq, Prod.mk.injEq] at hv
            obtain ⟨rfl, rfl⟩ := hv
            cases hu with
            | ref _ _ _ b o c hI hc h1 hh =>
              refine ⟨.pointer (some ⟨b, o + (k + fd.offset), none⟩), ?_, .ref _ _ _ b o c hI hc h1 hh⟩
              simp [Instr.fieldAt, run_underlying hund, hfd, Instr.sureAddr, fieldPlace, run_sizeOf ht hfi, hp, Addr.add_lit, Nat.add_assoc]
          · rename_i id i k
            simp only [Option.some.injEq, Prod.mk.injEq] at hv
            obtain ⟨rfl, rfl⟩ := hv
            cases hu with
            | ptr _ _ _ _ b l hl hb =>
              refine ⟨.pointer (some ⟨b, l.off + i * l.sz + (k + fd.offset), none⟩), ?_, .ptr _ _ _ _ b l hl hb⟩
              simp [Instr.fieldAt, run_underlying hund, hfd, Instr.sureAddr, fieldPlace, run_sizeOf ht hfi, hp, Addr.add_lit, Nat.add_assoc]
          · cases hv
      · cases hv
    · cases hv
  · cases hv
def valIndexAddr (tt : TypeId → Option TI) (st : St) (T : TypeId) (x : D) : D → Option (Prop × D)
  | .v (.int _ i) => match (tt T).map TI.und with
    | some (.slice e) => match tt e with
      | some ei => match x with
        | .sl _ rows => some (0 ≤ i ∧ i < rows.length ∧ (rows.getD i.toNat []).length = ei.sz, .ref (rows.getD i.toNat []) 0)
        | .own id off len => match st.heap id with
          | some o => some (0 ≤ i ∧ i < len ∧ o.sz = ei.sz ∧ off + i.toNat < o.rows.length, .ptr id (off + i.toNat) 0)
          | none => none
        | _ => none
      | none => none
    | some (.array n e) => match tt e with
      | some ei => match x with
        | .ref row k => some (0 ≤ i ∧ i < n, .ref row (k + i.toNat * ei.sz))
        | .ptr id j k => some (0 ≤ i ∧ i < n, .ptr id j (k + i.toNat * ei.sz))
        | _ => none
      | none => none
    | _ => none
  | _ => none
theorem run_valIndexAddr (ht : TTok P tt) (h : RB E st a w ρ I) {T : TypeId} {x ix r : D} {p : Prop} {u v : Value} (hv : valIndexAddr tt st T x ix = some (p, r)) (hp : p)
    (hu : Rep I ρ x u) (hx : Rep I ρ ix v) : ∃ z, (Instr.indexAt T u v).run P w = .ok z w ∧ Rep I ρ r z := by
  unfold valIndexAddr at hv
  split at hv
  · rename_i kk i
    cases rep_v_inv hx
    split at hv
    · rename_i e hT
      cases hT' : tt T with
      | none => simp [hT'] at hT
      | some si =>
        simp only [hT', Option.map_some, Option.some.injEq] at hT
        have hund := und_of ht hT'
        rw [hT] at hund
        split at hv
        · rename_i ei hei
          split at hv
          · rename_i full rows
            simp only [Option.some.injEq, Prod.mk.injEq] at hv
            obtain ⟨rfl, rfl⟩ := hv
            obtain ⟨h0, h1, h2⟩ := hp
            have hi : i.toNat < rows.length := by omega
            cases hu with
            | nil _ _ _ _ _ => simp at hi
            | sl _ _ _ b o cap sz c hI hsz hc hcap hf hone hh =>
              have hr := getD_rows hi
              have hrl := hsz _ (List.mem_of_getElem? hr)
              have hsz' : sz = ei.sz := by omega
              subst hsz'
              have hb : i.toNat * ei.sz + ei.sz ≤ rows.length * ei.sz := by
                calc i.toNat * ei.sz + ei.sz = (i.toNat + 1) * ei.sz := by rw [Nat.add_mul, Nat.one_mul]
                  _ ≤ _ := Nat.mul_le_mul_right _ hi
              refine ⟨.pointer (some ⟨b, o + i.toNat * ei.sz + 0, none⟩), ?_, .ref _ _ _ b (o + i.toNat * ei.sz) c hI (by omega) (fun j x hj hx => hone (i.toNat * ei.sz + j) x (by omega) (by rw [← Nat.add_assoc]; exact hx)) fun j d x hj hx => hh _ _ _ _ _ hr hj hx⟩
              simp [Instr.indexAt, asIntOf, run_underlying hund, h0, h1, run_sizeOf ht hei, Addr.add_lit]
          · rename_i id off len
            split at hv
            · rename_i ob hob
              simp only [Option.some.injEq, Prod.mk.injEq] at hv
              obtain ⟨rfl, rfl⟩ := hv
              obtain ⟨h0, h1, h2, h3⟩ := hp
              obtain ⟨l, hl, hlaid⟩ := h.mem.laid id ob hob
              cases hu with
              | own _ _ _ _ l' ad hl' hcap ha =>
                rw [hl] at hl'; cases hl'
                rcases ha with ha | ⟨b, hb, rfl⟩
                · omega
                · refine ⟨.pointer (some ⟨b, l.off + (off + i.toNat) * l.sz + 0, none⟩), ?_, .ptr _ _ _ _ b l hl hb⟩
                  have e1 : l.sz = ei.sz := by rw [hlaid.sz, h2]
                  simp [Instr.indexAt, asIntOf, run_underlying hund, h0, h1, run_sizeOf ht hei, Addr.add_lit, e1, Nat.add_mul, Nat.add_assoc]
            · cases hv
          · cases hv
        · cases hv
    · rename_i n e hT
      cases hT' : tt T with
      | none => simp [hT'] at hT
      | some si =>
        simp only [hT', Option.map_some, Option.some.injEq] at hT
        have hund := und_of ht hT'
        rw [hT] at hund
        split at hv
        · rename_i ei hei
          split at hv
          · rename_i row k
            simp only [Option.some.injEq, Prod.mk.injEq] at hv
            obtain ⟨rfl, rfl⟩ := hv
            obtain ⟨h0, h1⟩ := hp
            cases hu with
            | ref _ _ _ b o c hI hc hone hh =>
              refine ⟨.pointer (some ⟨b, o + (k + i.toNat * ei.sz), none⟩), ?_, .ref _ _ _ b o c hI hc hone hh⟩
              simp [Instr.indexAt, asIntOf, run_underlying hund, Instr.sureAddr, h0, h1, run_sizeOf ht hei, Addr.add_lit, Nat.add_assoc]
          · rename_i id j k
            simp only [Option.some.injEq, Prod.mk.injEq] at hv
            obtain ⟨rfl, rfl⟩ := hv
            obtain ⟨h0, h1⟩ := hp
            cases hu with
            | ptr _ _ _ _ b l hl hb =>
              refine ⟨.pointer (some ⟨b, l.off + j * l.sz + (k + i.toNat * ei.sz), none⟩), ?_, .ptr _ _ _ _ b l hl hb⟩
              simp [Instr.indexAt, asIntOf, run_underlying hund, Instr.sureAddr, h0, h1, run_sizeOf ht hei, Addr.add_lit, Nat.add_assoc]
          · cases hv
        · cases hv
    · cases hv
  · cases hv
def bnd (d : Int) : Option D → Option Int
  | none => some d
  | some (.v (.int _ i)) => some i
  | _ => none
def valSlice (tt : TypeId → Option TI) (st : St) (T : TypeId) (x : D) (lo hi mx : Option D) : Option (Prop × D) :=
  match (tt T).map TI.und, x with
  | some (.slice e), .sl full rows => match tt e, bnd 0 lo, bnd rows.length hi, mx with
    | some ei, some l, some h, none => some ((0 ≤ l ∧ l ≤ h ∧ h ≤ rows.length) ∧ (rows = [] ∨ ∃ row ∈ rows, row.length = ei.sz), .sl (full && hi.isNone) ((rows.drop l.toNat).take (h.toNat - l.toNat)))
    | some ei, some l, some h, some (.v (.int _ m)) => some ((0 ≤ l ∧ l ≤ h ∧ h = m ∧ h ≤ rows.length) ∧ hi.isSome = true ∧ (rows = [] ∨ ∃ row ∈ rows, row.length = ei.sz), .sl true ((rows.drop l.toNat).take (h.toNat - l.toNat)))
    | _, _, _, _ => none
  | some (.slice e), .own id off len => match tt e, st.heap id, bnd 0 lo, bnd len hi, mx with
    | some ei, some o, some l, some h, none => some (0 ≤ l ∧ l ≤ h ∧ off + h.toNat ≤ o.rows.length ∧ o.sz = ei.sz, .own id (off + l.toNat) (h.toNat - l.toNat))
    | some _, some _, some l, some h, some (.v (.int _ m)) => some (hi.isSome = true ∧ 0 ≤ l ∧ l = h ∧ h = m ∧ m ≤ len, .sl true [])
    | _, _, _, _, _ => none
  | some .string, .v (.string s) => match bnd 0 lo, bnd s.size hi, mx with
    | some l, some h, none => some (0 ≤ l ∧ l ≤ h ∧ h ≤ s.size, .v (.string (s.extract l.toNat h.toNat)))
    | _, _, _ => none
  | _, _ => none
def RepO (I : Imm) (ρ : Locs) : Option D → Option Value → Prop
  | none, none => True
  | some d, some v => Rep I ρ d v
  | _, _ => False
theorem run_bnds {isSlice : Bool} {len cap : Nat} {lo hi mx : Option D} {lov hiv mxv : Option Value} {l h m : Int} (hlo : RepO I ρ lo lov) (hhi : RepO I ρ hi hiv) (hmx : RepO I ρ mx mxv)
    (h1 : bnd 0 lo = some l) (h2 : bnd len hi = some h) (h3 : bnd cap mx = some m) (hm : mx.isSome = true → hi.isSome = true) (a1 : 0 ≤ l) (a2 : l ≤ h) (a3 : h ≤ m) (a4 : m ≤ cap) :
    (Instr.sliceBounds isSlice len cap lov hiv mxv).run P w = .ok (l.toNat, h.toNat, m.toNat) w := by
  have key : ∀ (d : Int) (x : Option D) (xv : Option Value) (i : Int), RepO I ρ x xv → bnd d x = some i → (xv = none ∧ i = d ∧ x = none) ∨ ∃ k, xv = some (.int k i) ∧ x.isSome = true := by
    intro d x xv i hx hb
    unfold bnd at hb
    split at hb
    · cases xv <;> simp [RepO] at hx
      exact .inl ⟨rfl, by simpa using hb.symm, rfl⟩
    · rename_i k i'
      cases xv with
      | none => simp [RepO] at hx
      | some v =>
        have := rep_v_inv hx
        subst this
        simp at hb; subst hb
        exact .inr ⟨k, rfl, rfl⟩
    · cases hb
  have b1 : 0 ≤ h := by omega
  have b2 : 0 ≤ m := by omega
  have b3 : l ≤ ((h.toNat : Nat) : Int) := by omega
  have b4 : h ≤ ((m.toNat : Nat) : Int) := by omega
  have n1 : ¬ l < 0 := by omega
  have n2 : ¬ h < 0 := by omega
  have n3 : ¬ m < 0 := by omega
  have n4 : ¬ max h 0 < l := by omega
  have n5 : ¬ max m 0 < h := by omega
  have n6 : ¬ (cap : Int) < m := by omega
  have n7 : ¬ (cap : Int) < h := by omega
  have p4 : l ≤ max h 0 := by omega
  have p5 : h ≤ max m 0 := by omega
  have p7 : h ≤ (cap : Int) := by omega
  rcases key _ _ _ _ hlo h1 with ⟨rfl, e1, q1⟩ | ⟨k1, rfl, s1⟩ <;> rcases key _ _ _ _ hhi h2 with ⟨rfl, e2, q2⟩ | ⟨k2, rfl, s2⟩ <;> rcases key _ _ _ _ hmx h3 with ⟨rfl, e3, q3⟩ | ⟨k3, rfl, s3⟩
  all_goals first
    | (exfalso; have := hm s3; rw [q2] at this; simp at this; done)
    | (first
        | (have z1 : l.toNat = 0 := by omega
           rw [z1])
        | skip
       first
        | (have z2 : h.toNat = len := by omega
           have n8 : ¬ (len : Int) < l := by omega
           have n9 : l ≤ len := by omega
           rw [z2])
        | (have n8 : True := trivial
           have n9 : True := trivial)
       first
        | (have z3 : m.toNat = cap := by omega
           rw [z3])
        | skip
       simp [Instr.sliceBounds, Instr.sliceBound, asIntOf, a1, a4, b1, b2, n4, n5, n6, n7, n8, n9, p4, p5, p7]
       done)
theorem run_sliceAt_of {T : TypeId} {e : TypeId} (hund : P.underlying T = some (.slice e)) (x : Value) (lo hi mx : Option Value) : (Instr.sliceAt T x lo hi mx).run P w = (Instr.slice T x lo hi mx).run P w := by
  simp [Instr.sliceAt, run_underlying hund]
theorem Rep.sub_sl (hI : ImmOk I w) {full : Bool} {rows : List (List D)} {x : Value} (h : Rep I ρ (.sl full rows) x) {sz : Nat} (hsz : rows = [] ∨ ∃ row ∈ rows, row.length = sz) (l n : Nat) (hn : l + n ≤ rows.length) :
    ∃ ad cap, x = .slice ad rows.length cap ∧ ∀ m, (m = cap → full = true → True) → l + n ≤ m → m ≤ cap → ∀ f' : Bool, (f' = true → m = l + n) →
      Rep I ρ (.sl f' ((rows.drop l).take n)) (.slice (if m = l then ad else ad.map (·.add (l * sz))) n (m - l)) := by
  have hlen : ((rows.drop l).take n).length = n := by simp; omega
  cases h with
  | nil _ _ ad cap hf =>
    refine ⟨ad, cap, rfl, fun m _ h1 h2 f' hf' => ?_⟩
    simp at hn
    obtain ⟨rfl, rfl⟩ : l = 0 ∧ n = 0 := by omega
    exact .nil _ _ _ _ (fun q => by have := hf' q; omega)
  | sl _ _ _ b o cap sz' c hI' hs hc hcap hf hone hh =>
    refine ⟨_, cap, rfl, fun m _ h1 h2 f' hf' => ?_⟩
    by_cases hn0 : n = 0
    · subst hn0
      simp only [List.take_zero]
      exact .nil _ _ _ _ (fun q => by have := hf' q; omega)
    · have hml : m ≠ l := by omega
      have hsz' : sz' = sz := by
        rcases hsz with e | ⟨row, hr, e⟩
        · subst e; simp at hn; omega
        · rw [← hs row hr, e]
      subst hsz'
      have e1 : (Option.map (fun x : Addr => x.add (l * sz')) (some (⟨b, o, none⟩ : Addr))) = some ⟨b, o + l * sz', none⟩ := by simp [Addr.add_lit]
      rw [if_neg hml, e1]
      have hle : (l + n) * sz' ≤ rows.length * sz' := Nat.mul_le_mul_right _ hn
      rw [Nat.add_mul] at hle
      have := Rep.sl (I := I) ρ f' ((rows.drop l).take n) b (o + l * sz') (m - l) sz' c hI' (fun row hr => hs row (List.mem_of_mem_drop (List.mem_of_mem_take hr))) (by rw [hlen]; omega) (by rw [hlen]; omega)
        (fun q => by rw [hlen]; have := hf' q; omega) (fun j x hj hx => hone (l * sz' + j) x (by rw [hlen] at hj; omega) (by rw [← Nat.add_assoc]; exact hx))
        (fun i j row d x hr hd hx => by
          rw [List.getElem?_take] at hr
          split at hr
          · rw [List.getElem?_drop] at hr
            refine hh (l + i) j row d x hr hd ?_
            rw [Nat.add_mul, ← Nat.add_assoc]; exact hx
          · cases hr)
      rw [hlen] at this
      exact this
theorem run_valSlice (ht : TTok P tt) (h : RB E st a w ρ I) {T : TypeId} {x r : D} {lo hi mx : Option D} {p : Prop} {u : Value} {lov hiv mxv : Option Value} (hv : valSlice tt st T x lo hi mx = some (p, r)) (hp : p)
    (hu : Rep I ρ x u) (hlo : RepO I ρ lo lov) (hhi : RepO I ρ hi hiv) (hmx : RepO I ρ mx mxv) : ∃ z, (Instr.sliceAt T u lov hiv mxv).run P w = .ok z w ∧ Rep I ρ r z := by
  unfold valSlice at hv
  split at hv
  · rename_i e full rows hT
    cases hT' : tt T with
    | none => simp [hT'] at hT
    | some si =>
      simp only [hT', Option.map_some, Option.some.injEq] at hT
      have hund := und_of ht hT'
      rw [hT] at hund
      rw [run_sliceAt_of hund]
      split at hv
      · rename_i ei l hh hei hl hhh
        simp only [Option.some.injEq, Prod.mk.injEq] at hv
        obtain ⟨rfl, rfl⟩ := hv
        obtain ⟨⟨h1, h2, h3⟩, hsz⟩ := hp
        obtain ⟨ad, cap, rfl, hrep⟩ := hu.sub_sl h.mem.imm hsz l.toNat (hh.toNat - l.toNat) (by omega)
        have hcap : rows.length ≤ cap := by
          obtain ⟨_, _, e1, e2, _⟩ := rows_of_sl h.mem.imm hu
          cases e1; exact e2
        have hfull : full = true → cap = rows.length := by
          obtain ⟨_, _, e1, _, e2, _⟩ := rows_of_sl h.mem.imm hu
          cases e1; exact e2
        have hb := run_bnds (P := P) (w := w) (isSlice := true) (len := rows.length) (cap := cap) (m := cap) hlo hhi hmx hl hhh rfl (by simp) h1 h2 (by omega) (by omega)
        have hr := hrep cap (by simp) (by omega) (Nat.le_refl _) (full && hi.isNone) (fun q => by
          simp only [Bool.and_eq_true, Option.isNone_iff_eq_none] at q
          obtain ⟨q1, rfl⟩ := q
          simp [bnd] at hhh
          have := hfull q1; omega)
        refine ⟨_, ?_, hr⟩
        simp [Instr.slice, run_underlying hund, hb, run_sizeOf ht hei]
      · rename_i ei l hh k m hei hl hhh
        simp only [Option.some.injEq, Prod.mk.injEq] at hv
        obtain ⟨rfl, rfl⟩ := hv
        obtain ⟨⟨h1, h2, h3, h4⟩, h5, hsz⟩ := hp
        obtain ⟨ad, cap, rfl, hrep⟩ := hu.sub_sl h.mem.imm hsz l.toNat (hh.toNat - l.toNat) (by omega)
        have hcap : rows.length ≤ cap := by
          obtain ⟨_, _, e1, e2, _⟩ := rows_of_sl h.mem.imm hu
          cases e1; exact e2
        have hb := run_bnds (P := P) (w := w) (isSlice := true) (len := rows.length) (cap := cap) (m := m) hlo hhi hmx hl hhh rfl (fun _ => h5) h1 h2 (by omega) (by omega)
        have hr := hrep m.toNat (by simp) (by omega) (by omega) true (fun q => by omega)
        refine ⟨_, ?_, hr⟩
        simp [Instr.slice, run_underlying hund, hb, run_sizeOf ht hei]
      · cases hv
  · rename_i e id off len hT
    cases hT' : tt T with
    | none => simp [hT'] at hT
    | some si =>
      simp only [hT', Option.map_some, Option.some.injEq] at hT
      have hund := und_of ht hT'
      rw [hT] at hund
      rw [run_sliceAt_of hund]
      split at hv
      · rename_i ei o l hh hei ho hl hhh
        simp only [Option.some.injEq, Prod.mk.injEq] at hv
        obtain ⟨rfl, rfl⟩ := hv
        obtain ⟨h1, h2, h3, h4⟩ := hp
        obtain ⟨lc, hlc, hlaid⟩ := h.mem.laid id o ho
        have hc := hlaid.cap
        cases hu with
        | own _ _ _ _ l' ad hl' hcap ha =>
          rw [hlc] at hl'; cases hl'
          have hb := run_bnds (P := P) (w := w) (isSlice := true) (len := len) (cap := lc.cap - off) (m := ((lc.cap - off : Nat) : Int)) hlo hhi hmx hl hhh rfl (by simp) h1 h2 (by omega) (by omega)
          refine ⟨.slice (if lc.cap - off = l.toNat then ad else ad.map (·.add (l.toNat * ei.sz))) (hh.toNat - l.toNat) (lc.cap - (off + l.toNat)), ?_, .own _ _ _ _ lc _ hlc (by omega) ?_⟩
          · simp [Instr.slice, run_underlying hund, hb, run_sizeOf ht hei]
            omega
          · rcases ha with ha | ⟨b, hb', rfl⟩
            · left; omega
            · by_cases hq : lc.cap - off = l.toNat
              · left; omega
              · right
                refine ⟨b, hb', ?_⟩
                rw [if_neg hq]
                simp [Addr.add_lit, hlaid.sz, h4, Nat.add_mul, Nat.add_assoc]
      · rename_i ei o l hh k m hei ho hl hhh
        simp only [Option.some.injEq, Prod.mk.injEq] at hv
        obtain ⟨rfl, rfl⟩ := hv
        obtain ⟨h0, h1, h2, h3, h4⟩ := hp
        cases hu with
        | own _ _ _ _ l' ad hl' hcap ha =>
          have hb := run_bnds (P := P) (w := w) (isSlice := true) (len := len) (cap := l'.cap - off) (m := m) hlo hhi hmx hl hhh rfl (fun _ => h0) h1 (by omega) (by omega) (by omega)
          refine ⟨.slice (if m.toNat = l.toNat then ad else ad.map (·.add (l.toNat * ei.sz))) 0 0, ?_, .nil _ _ _ _ (by simp)⟩
          subst h2 h3
          simp [Instr.slice, run_underlying hund, hb, run_sizeOf ht hei]
      · cases hv
  · rename_i s hT
    cases hT' : tt T with
    | none => simp [hT'] at hT
    | some si =>
      simp only [hT', Option.map_some, Option.some.injEq] at hT
      have hund := und_of ht hT'
      rw [hT] at hund
      split at hv
      · rename_i l hh hl hhh
        simp only [Option.some.injEq, Prod.mk.injEq] at hv
        obtain ⟨rfl, rfl⟩ := hv
        obtain ⟨h1, h2, h3⟩ := hp
        cases rep_v_inv hu
        have hb := run_bnds (P := P) (w := w) (isSlice := false) (len := s.size) (cap := s.size) (m := s.size) hlo hhi hmx hl hhh rfl (by simp) h1 h2 (by omega) (by omega)
        have hmn : mxv = none := by cases mxv <;> simp [RepO] at hmx; rfl
        subst hmn
        exact ⟨_, by simp [Instr.sliceAt, Instr.slice, run_underlying hund, hb], .v _ _⟩
      · cases hv
  · cases hv
def valLen (tt : TypeId → Option TI) (T : TypeId) (x : D) : Option (Prop × D) :=
  match (tt T).map TI.und, x with
  | some (.slice _), .sl _ rows => some (True, .v (.int .i64 rows.length))
  | some (.slice _), .own _ _ len => some (True, .v (.int .i64 len))
  | some .string, .v (.string s) => some (True, .v (.int .i64 s.size))
  | some (.array n _), _ => some (True, .v (.int .i64 n))
  | _, _ => none
theorem run_valLen (ht : TTok P tt) (hI : ImmOk I w) {T ty : TypeId} {x r : D} {p : Prop} {u : Value} (hv : valLen tt T x = some (p, r)) (hu : Rep I ρ x u) :
    ∃ z, (Builtin.len_ #[T] ty #[u]).run P w = .ok z w ∧ Rep I ρ r z := by
  unfold valLen at hv
  cases hT' : tt T with
  | none => simp [hT'] at hv
  | some si =>
    have hund := und_of ht hT'
    simp only [hT', Option.map_some] at hv
    split at hv <;> simp only [Option.some.injEq, Prod.mk.injEq, reduceCtorEq] at hv
    · rename_i e full rows he
      obtain ⟨rfl, rfl⟩ := hv
      simp only [Option.some.injEq] at he
      rw [he] at hund
      obtain ⟨ad, cap, rfl, _⟩ := rows_of_sl hI hu
      exact ⟨_, by simp [Builtin.len_, run_underlying hund, goInt], .v _ _⟩
    · rename_i e id off len he
      obtain ⟨rfl, rfl⟩ := hv
      simp only [Option.some.injEq] at he
      rw [he] at hund
      cases hu with
      | own _ _ _ _ l' ad hl' hcap ha => exact ⟨_, by simp [Builtin.len_, run_underlying hund, goInt], .v _ _⟩
    · rename_i s he
      obtain ⟨rfl, rfl⟩ := hv
      simp only [Option.some.injEq] at he
      rw [he] at hund
      cases rep_v_inv hu
      exact ⟨_, by simp [Builtin.len_, run_underlying hund, goInt], .v _ _⟩
    · rename_i n e _ he
      obtain ⟨rfl, rfl⟩ := hv
      simp only [Option.some.injEq] at he
      rw [he] at hund
      exact ⟨_, by simp [Builtin.len_, run_underlying hund, goInt], .v _ _⟩
def valMin : List D → Option (Prop × D)
  | [.v (.int k x), .v (.int _ y)] => some (True, .v (.int k (if y < x then y else x)))
  | _ => none
def valMax : List D → Option (Prop × D)
  | [.v (.int k x), .v (.int _ y)] => some (True, .v (.int k (if y > x then y else x)))
  | _ => none
def RepL (I : Imm) (ρ : Locs) : List D → List Value → Prop
  | [], [] => True
  | d :: ds, x :: xs => Rep I ρ d x ∧ RepL I ρ ds xs
  | _, _ => False
theorem RepL.get : ∀ {ds : List D} {xs : List Value}, RepL I ρ ds xs → ds.length = xs.length ∧ ∀ (i : Nat) (d : D) (x : Value), ds[i]? = some d → xs[i]? = some x → Rep I ρ d x
  | [], [], _ => by simp
  | d :: ds, x :: xs, h => by
    obtain ⟨h1, h2⟩ := RepL.get h.2
    refine ⟨by simp [h1], fun i d' x' q1 q2 => ?_⟩
    cases i with
    | zero => simp at q1 q2; subst q1; subst q2; exact h.1
    | succ i => exact h2 i d' x' (by simpa using q1) (by simpa using q2)
  | [], _ :: _, h => by simp [RepL] at h
  | _ :: _, [], h => by simp [RepL] at h
theorem run_valMin {ds : List D} {r : D} {p : Prop} {xs : List Value} {tys : Array TypeId} {ty : TypeId} (hv : valMin ds = some (p, r)) (hu : RepL I ρ ds xs) :
    ∃ z, (Builtin.min_ tys ty xs.toArray).run P w = .ok z w ∧ Rep I ρ r z := by
  unfold valMin at hv
  split at hv
  · obtain ⟨h1, h2⟩ := RepL.get hu
    match xs, hu with
    | [x, y], hu =>
      obtain ⟨q1, q2, _⟩ := hu
      cases rep_v_inv q1; cases rep_v_inv q2
      simp only [Option.some.injEq, Prod.mk.injEq] at hv
      obtain ⟨rfl, rfl⟩ := hv
      exact ⟨_, by simp [Builtin.min_, Builtin.min2], .v _ _⟩
  · cases hv
theorem run_valMax {ds : List D} {r : D} {p : Prop} {xs : List Value} {tys : Array TypeId} {ty : TypeId} (hv : valMax ds = some (p, r)) (hu : RepL I ρ ds xs) :
    ∃ z, (Builtin.max_ tys ty xs.toArray).run P w = .ok z w ∧ Rep I ρ r z := by
  unfold valMax at hv
  split at hv
  · obtain ⟨h1, h2⟩ := RepL.get hu
    match xs, hu with
    | [x, y], hu =>
      obtain ⟨q1, q2, _⟩ := hu
      cases rep_v_inv q1; cases rep_v_inv q2
      simp only [Option.some.injEq, Prod.mk.injEq] at hv
      obtain ⟨rfl, rfl⟩ := hv
      exact ⟨_, by simp [Builtin.max_, Builtin.max2], .v _ _⟩
  · cases hv
def byteRow : List D → UInt8
  | [.v (.int .u8 n)] => UInt8.ofNat n.toNat
  | _ => 0
def convBytes (tt : TypeId → Option TI) (st : St) (e : TypeId) (d : D) : Option (Prop × D) :=
  match (tt e).map TI.und, st.rowsOf d with
  | some (.int .u8), some (p, rows) => some (p ∧ ∀ row ∈ rows, ∃ n, row = [.v (.int .u8 n)], .v (.string ⟨(rows.map byteRow).toArray⟩))
  | _, _ => none
def isSliceT : TypeDesc → Option TypeId
  | .slice e => some e
  | _ => none
def valConvert (tt : TypeId → Option TI) (st : St) (src dst : TypeId) (x : D) : Option (Prop × D) :=
  match tt src, tt dst with
  | some si, some di => match di.und with
    | .int k => match x with
      | .v (.int _ n) => some (True, .v (.int k (k.wrap n)))
      | _ => none
    | .string => match isSliceT si.und with
      | some e => convBytes tt st e x
      | none => match x with
        | .v (.string s) => some (True, .v (.string s))
        | _ => none
    | _ => none
  | _, _ => none
theorem foldl_push (ns : List Int) (s : ByteArray) : ns.foldl (fun (r : ByteArray) n => r.push (UInt8.ofNat n.toNat)) s = ⟨s.data ++ (ns.map fun n => UInt8.ofNat n.toNat).toArray⟩ := by
  induction ns generalizing s with
  | nil => simp
  | cons n ns ih =>
    simp only [List.foldl_cons, ih, List.map_cons]
    congr 1
    simp [ByteArray.push]
theorem run_bytes_of_rows {rows : List (List D)} {b o cap : Nat} (h : Rows I ρ w rows 1 b o) (hb : ∀ row ∈ rows, ∃ n, row = [.v (.int .u8 n)]) :
    (Conv.bytesToString (.slice (some ⟨b, o, none⟩) rows.length cap)).run P w = .ok (.string ⟨(rows.map byteRow).toArray⟩) w := by
  obtain ⟨cs, c1, c2, c3⟩ := h.load
  have hns : ∃ ns : List Int, rows = ns.map fun n => [D.v (.int .u8 n)] := by
    clear c1 c2 c3 h
    induction rows with
    | nil => exact ⟨[], rfl⟩
    | cons r rs ih =>
      obtain ⟨ns, hns⟩ := ih (fun row hr => hb row (by simp [hr]))
      obtain ⟨n, hn⟩ := hb r (by simp)
      exact ⟨n :: ns, by simp [hn, hns]⟩
  obtain ⟨ns, rfl⟩ := hns
  simp only [List.length_map, Nat.mul_one] at c1 ⊢
  have hcs : cs = ns.map (Value.int .u8) := by
    apply List.ext_getElem?
    intro i
    by_cases hi : i < ns.length
    · have hi' : i < cs.length := by omega
      have := c3 i 0 [.v (.int .u8 ns[i])] _ cs[i] (by simp [hi]) rfl (by simp [List.getElem?_eq_getElem hi'])
      rw [List.getElem?_eq_getElem hi', rep_v_inv this]
      simp [hi]
    · rw [List.getElem?_eq_none (by omega), List.getElem?_eq_none (by simp; omega)]
  have hl := run_loadCells_list (P := P) w ⟨b, o, none⟩ cs (fun j v hv => (c2 j v hv).1)
  rw [c1, hcs] at hl
  rw [run_bytesToString w _ _ _ ns hl, foldl_push]
  congr 3
  simp [byteRow]
theorem isSliceT_inv {d : TypeDesc} {e : TypeId} (h : isSliceT d = some e) : d = .slice e := by
  cases d <;> simp [isSliceT] at h
  subst h; rfl
theorem run_convBytes (ht : TTok P tt) (h : RB E st a w ρ I) {src dst e : TypeId} {x r : D} {p : Prop} {u : Value} (hv : convBytes tt st e x = some (p, r)) (hp : p) (hu : Rep I ρ x u)
    (hus : P.underlying src = some (.slice e)) (hud : P.underlying dst = some .string) : ∃ z, (convert src dst u).run P w = .ok z w ∧ Rep I ρ r z := by
  unfold convBytes at hv
  cases he : tt e with
  | none => simp [he] at hv
  | some ei =>
    simp only [he, Option.map_some] at hv
    split at hv
    · rename_i q rows hei hrows
      simp only [Option.some.injEq] at hei
      simp only [Option.some.injEq, Prod.mk.injEq] at hv
      obtain ⟨rfl, rfl⟩ := hv
      have hue := und_of ht he
      rw [hei] at hue
      obtain ⟨ad, cap, rfl, hcap, hr⟩ := h.rowsOf hrows hp.1 hu
      refine ⟨_, ?_, .v _ _⟩
      rw [run_convert_bytes_string w src dst e ad _ cap hus hue hud]
      by_cases hne : rows = []
      · subst hne
        cases ad with
        | none => simp [Conv.bytesToString]; rfl
        | some ad => simp [Conv.bytesToString, loadCells, loadCellsFrom]; rfl
      · obtain ⟨b, o, sz, rfl, hrs⟩ := hr hne
        have hsz : sz = 1 := by
          cases rows with
          | nil => exact absurd rfl hne
          | cons r rs =>
            obtain ⟨n, hn⟩ := hp.2 r (by simp)
            rw [← hrs.len r (by simp), hn]; rfl
        subst hsz
        exact run_bytes_of_rows hrs hp.2
    · cases hv
theorem run_valConvert (ht : TTok P tt) (h : RB E st a w ρ I) {src dst : TypeId} {x r : D} {p : Prop} {u : Value} (hv : valConvert tt st src dst x = some (p, r)) (hp : p) (hu : Rep I ρ x u) :
    ∃ z, (convert src dst u).run P w = .ok z w ∧ Rep I ρ r z := by
  unfold valConvert at hv
  cases hs : tt src with
  | none => simp [hs] at hv
  | some si =>
    cases hd : tt dst with
    | none => simp [hs, hd] at hv
    | some di =>
      have hus := und_of ht hs
      have hud := und_of ht hd
      simp only [hs, hd] at hv
      cases hdu : di.und with
      | int k =>
        simp only [hdu] at hv
        rw [hdu] at hud
        split at hv
        · simp only [Option.some.injEq, Prod.mk.injEq] at hv
          obtain ⟨rfl, rfl⟩ := hv
          cases rep_v_inv hu
          refine ⟨_, ?_, .v _ _⟩
          simp [convert, run_underlying hus, run_underlying hud, Conv.intToInt]
        · cases hv
      | string =>
        simp only [hdu] at hv
        rw [hdu] at hud
        cases hsl : isSliceT si.und with
        | some e =>
          simp only [hsl] at hv
          rw [isSliceT_inv hsl] at hus
          exact run_convBytes ht h hv hp hu hus hud
        | none =>
          simp only [hsl] at hv
          split at hv
          · simp only [Option.some.injEq, Prod.mk.injEq] at hv
            obtain ⟨rfl, rfl⟩ := hv
            cases rep_v_inv hu
            refine ⟨_, ?_, .v _ _⟩
            simp only [convert, Sem.run_bind, run_underlying hus, run_underlying hud, Result.andThen_ok]
            cases hsu : si.und <;> first | rfl | (simp [hsu, isSliceT] at hsl)
          · cases hv
      | _ => simp [hdu] at hv
end
end Go.Ab
