/-
  ABSTRACT DATA FOR WALKS, 8: one operation, abstractly, and that the machine does it.
-/
import Derived.Test.YtfllndodnhmhkaaAb7
namespace Go.Ab
set_option linter.unusedSimpArgs false
set_option linter.unusedVariables false

def St.evL (st : St) : List Operand → Option (List D)
  | [] => some []
  | x :: xs => match st.ev x, st.evL xs with
    | some d, some ds => some (d :: ds)
    | _, _ => none
def St.evO (st : St) : Option Operand → Option (Option D)
  | none => some none
  | some x => match st.ev x with
    | some d => some (some d)
    | none => none

def zrow (ti : TI) : List D := ti.zero.cells.toList.map ofAtom

def valExtract (k : Nat) : D → Option (Prop × D)
  | .tup ds => some (k < ds.length, ds.getD k .junk)
  | _ => none

def placesOf (tt : TypeId → Option TI) (fields : Array Field) : Option (Array (Nat × Nat)) :=
  (fields.toList.mapM fun f => (tt f.type).map fun i => (f.offset, i.sz)).map List.toArray

def placesL (tt : TypeId → Option TI) : List Field → Option (List (Nat × Nat))
  | [] => some []
  | f :: fs => match tt f.type, placesL tt fs with
    | some i, some r => some ((f.offset, i.sz) :: r)
    | _, _ => none

def valBuild (tt : TypeId → Option TI) (T : TypeId) (idx : List Nat) (ds : List D) : Option (Prop × D) :=
  match tt T with
  | some ti => match ti.und with
    | .struct fields => match placesL tt fields.toList with
      | some pl => match fillD (fun i => pl[i]?) (zrow ti) (idx.zip ds) with
        | some (p, cs) => some (p, .agg cs)
        | none => none
      | none => none
    | .array _ e => match tt e with
      | some ei => match fillD (fun i => some (i * ei.sz, ei.sz)) (zrow ti) (idx.zip ds) with
        | some (p, cs) => some (p, .agg cs)
        | none => none
      | none => none
    | _ => none
  | none => none

def val (tt : TypeId → Option TI) (st : St) : Op → Option (Prop × D)
  | .move x => match st.ev x with
    | some d => some (True, d)
    | none => none
  | .assign x => match st.ev x with
    | some d => some (True, d)
    | none => none
  | .pick c a b => match st.ev c with
    | some (.v (.bool true)) => match st.ev a with
      | some d => some (True, d)
      | none => none
    | some (.v (.bool false)) => match st.ev b with
      | some d => some (True, d)
      | none => none
    | _ => none
  | .load T x => match st.ev x with
    | some d => valLoad tt st T d
    | none => none
  | .nilCheck x => match st.ev x with
    | some (.ptr id i k) => some (True, .ptr id i k)
    | some (.ref r k) => some (True, .ref r k)
    | _ => none
  | .binOp op T x y _ => match st.ev x, st.ev y with
    | some dx, some dy => dbin tt op T dx dy
    | _, _ => none
  | .unOp op _ x => match st.ev x with
    | some d => sun op d
    | none => none
  | .convert src dst x => match st.ev x with
    | some d => valConvert tt st src dst d
    | none => none
  | .slice T x lo hi mx => match st.ev x, st.evO lo, st.evO hi, st.evO mx with
    | some d, some l, some h, some m => valSlice tt st T d l h m
    | _, _, _, _ => none
  | .fieldAddr S x f => match st.ev x with
    | some d => valFieldAddr tt S f d
    | none => none
  | .field S x f => match st.ev x with
    | some d => valField tt S f d
    | none => none
  | .indexAddr T x i => match st.ev x, st.ev i with
    | some d, some di => valIndexAddr tt st T d di
    | _, _ => none
  | .index T x i => match st.ev x, st.ev i with
    | some d, some di => valIndex tt T d di
    | _, _ => none
  | .extract t k => match st.ev t with
    | some d => valExtract k d
    | none => none
  | .build T parts => match st.evL (parts.toList.map (·.2)) with
    | some ds => valBuild tt T (parts.toList.map (·.1)) ds
    | none => none
  | .makeFunc f first caps => match st.evL first.toList, st.evL caps.toList with
    | some d1, some ds => some (True, .fn f d1.length (d1 ++ ds))
    | _, _ => none
  | .call c => match c.callee, c.args.toList, c.argTypes.toList with
    | .builtin .len, [x], [T] => match st.ev x with
      | some d => valLen tt T d
      | none => none
    | .builtin .min, xs, _ => match st.evL xs with
      | some ds => valMin ds
      | none => none
    | .builtin .max, xs, _ => match st.evL xs with
      | some ds => valMax ds
      | none => none
    | _, _, _ => none
  | _ => none

section
variable {P : Program} {E : Ent} {st : St} {a : Act} {w : World} {ρ : Locs} {I : Imm} {tt : TypeId → Option TI}

theorem RB.evL (h : RB E st a w ρ I) : ∀ {xs : List Operand} {ds : List D}, st.evL xs = some ds → RepL I ρ ds (xs.map a.eval)
  | [], ds, he => by simp only [St.evL, Option.some.injEq] at he; subst he; trivial
  | x :: xs, ds, he => by
    simp only [St.evL] at he
    split at he
    · rename_i d ds' e1 e2
      simp only [Option.some.injEq] at he
      subst he
      exact ⟨h.ev e1, h.evL e2⟩
    · cases he

theorem RB.evO (h : RB E st a w ρ I) {x : Option Operand} {d : Option D} (he : st.evO x = some d) : RepO I ρ d (x.map a.eval) := by
  cases x with
  | none => simp only [St.evO, Option.some.injEq] at he; subst he; trivial
  | some x =>
    simp only [St.evO] at he
    split at he
    · rename_i d' e1
      simp only [Option.some.injEq] at he
      subst he
      exact h.ev e1
    · cases he

theorem run_valExtract {k : Nat} {d r : D} {p : Prop} {u : Value} (hv : valExtract k d = some (p, r)) (hp : p) (hu : Rep I ρ d u) : ∃ z, (Instr.extract u k).run P w = .ok z w ∧ Rep I ρ r z := by
  unfold valExtract at hv
  split at hv
  · simp only [Option.some.injEq, Prod.mk.injEq] at hv
    obtain ⟨rfl, rfl⟩ := hv
    cases hu with
    | tup _ cs vs hl hh =>
      have hlt : k < vs.size := by omega
      refine ⟨vs[k], by simp [Instr.extract, Array.getElem?_eq_getElem hlt], ?_⟩
      simpa [List.getD, List.getElem?_eq_getElem hp] using hh k _ _ (List.getElem?_eq_getElem hp) (Array.getElem?_eq_getElem hlt)
  · cases hv

theorem run_places (ht : TTok P tt) : ∀ {fs : List Field} {pl : List (Nat × Nat)}, placesL tt fs = some pl → (fs.mapM fun f => (do pure (f.offset, ← sizeOf f.type) : Sem (Nat × Nat))).run P w = .ok pl w
  | [], pl, h => by simp only [placesL, Option.some.injEq] at h; subst h; rfl
  | f :: fs, pl, h => by
    simp only [placesL] at h
    split at h
    · rename_i i r e1 e2
      simp only [Option.some.injEq] at h
      subst h
      have ih := run_places ht e2
      simp only [List.mapM_cons, Sem.run_bind, run_sizeOf ht e1, Sem.run_pure, Result.andThen_ok] at ih ⊢
      simp only [ih, Result.andThen_ok]
    · cases h

theorem zip_map_fst (ks : List Nat) (ds : List D) (h : ks.length = ds.length) : (ks.zip ds).map (·.1) = ks := by
  induction ks generalizing ds with
  | nil => rfl
  | cons k ks ih => cases ds with
    | nil => simp at h
    | cons d ds => simp at h; simp [ih ds h]
theorem zip_map_snd (ks : List Nat) (ds : List D) (h : ks.length = ds.length) : (ks.zip ds).map (·.2) = ds := by
  induction ks generalizing ds with
  | nil => cases ds <;> simp_all
  | cons k ks ih => cases ds with
    | nil => simp at h
    | cons d ds => simp at h; simp [ih ds h]

theorem repCs_zero (ti : TI) : RepCs I ρ (zrow ti) ti.zero.cells := by
  refine ⟨by simp [zrow], fun i d x h1 h2 => ?_⟩
  simp only [zrow, List.getElem?_map, Array.getElem?_toList, h2, Option.map_some, Option.some.injEq] at h1
  exact h1 ▸ rep_ofAtom _ _ _

theorem zeroValue_run (ht : TTok P tt) {T : TypeId} {ti : TI} (h : tt T = some ti) : (zeroValue T).run P w = .ok ti.zero w := by
  obtain ⟨info, t1, t2, t3, t4, t5, t6, t7, -⟩ := ht T ti h
  simp [zeroValue, typeInfo, t1, t5]

theorem mapM_array_list {α β : Type} (f : α → Sem β) (xs : Array α) (ys : List β) (h : (xs.toList.mapM f).run P w = .ok ys w) : (xs.mapM f).run P w = .ok ys.toArray w := by
  have : xs.mapM f = List.toArray <$> xs.toList.mapM f := by
    exact Array.mapM_eq_mapM_toList
  rw [this]
  simp [h]

theorem run_valBuild (ht : TTok P tt) {T : TypeId} {parts : Array (Nat × Operand)} {ds : List D} {r : D} {p : Prop} (hv : valBuild tt T (parts.toList.map (·.1)) ds = some (p, r)) (hp : p)
    (hu : RepL I ρ ds ((parts.toList.map (·.2)).map a.eval)) : ∃ z, (Instr.build T (parts.map fun (i, x) => (i, a.eval x))).run P w = .ok z w ∧ Rep I ρ r z := by
  have hlen : (parts.toList.map (·.1)).length = ds.length := by have := (RepL.get hu).1; simp at this ⊢; omega
  have hpl : (parts.map fun x : Nat × Operand => (x.1, a.eval x.2)).toList = parts.toList.map fun x => (x.1, a.eval x.2) := by simp
  have e1 : (((parts.toList.map (·.1)).zip ds).map (·.1)) = (parts.toList.map fun x => (x.1, a.eval x.2)).map (·.1) := by rw [zip_map_fst _ _ hlen]; simp
  have e2 : RepL I ρ (((parts.toList.map (·.1)).zip ds).map (·.2)) ((parts.toList.map fun x => (x.1, a.eval x.2)).map (·.2)) := by
    rw [zip_map_snd _ _ hlen]
    have : (parts.toList.map fun x => (x.1, a.eval x.2)).map (·.2) = (parts.toList.map (·.2)).map a.eval := by simp
    rw [this]; exact hu
  unfold valBuild at hv
  split at hv
  · rename_i ti hti
    have hund := und_of ht hti
    have hzv := zeroValue_run (w := w) ht hti
    split at hv
    · rename_i fields hf
      rw [hf] at hund
      split at hv
      · rename_i pl hplc
        split at hv
        · rename_i q cs hfill
          simp only [Option.some.injEq, Prod.mk.injEq] at hv
          obtain ⟨rfl, rfl⟩ := hv
          obtain ⟨vr, v1, v2⟩ := fill_ok _ _ _ _ _ _ hfill hp e1 e2 (repCs_zero ti)
          refine ⟨.agg vr, ?_, .agg _ _ _ v2.1 v2.2⟩
          have hpr := mapM_array_list (P := P) (w := w) (fun f : Field => (do pure (f.offset, ← sizeOf f.type) : Sem (Nat × Nat))) fields pl (run_places ht hplc)
          simp only [Instr.build, Sem.run_bind, hzv, run_underlying hund, Result.andThen_ok, hpr, hpl]
          have e3 : (fun i : Nat => pl.toArray[i]?) = fun i : Nat => pl[i]? := by funext i; simp
          simp [e3, v1]
        · cases hv
      · cases hv
    · rename_i n e hf
      rw [hf] at hund
      split at hv
      · rename_i ei hei
        split at hv
        · rename_i q cs hfill
          simp only [Option.some.injEq, Prod.mk.injEq] at hv
          obtain ⟨rfl, rfl⟩ := hv
          obtain ⟨vr, v1, v2⟩ := fill_ok _ _ _ _ _ _ hfill hp e1 e2 (repCs_zero ti)
          refine ⟨.agg vr, ?_, .agg _ _ _ v2.1 v2.2⟩
          simp only [Instr.build, Sem.run_bind, hzv, run_underlying hund, Result.andThen_ok, run_sizeOf ht hei, hpl]
          simp [v1]
        · cases hv
      · cases hv
    · cases hv
  · cases hv

theorem Source.cast {α : Type} {x y : α} (h : x = y) : x = y := h

/-- An operation that only looks. -/
theorem RB.val (ht : TTok P tt) (h : RB E st a w ρ I) {o : Oper} {d : D} {p : Prop} (hv : Go.Ab.val tt st o.op = some (p, d)) (hp : p) :
    ∃ z, (execOp a.eval o).run P w = .ok (.value z) w ∧ Rep I ρ d z := by
  unfold execOp
  cases ho : o.op <;> simp only [ho, Go.Ab.val] at hv ⊢ <;> try (cases hv; done)
  case move x =>
    split at hv <;> simp only [Option.some.injEq, Prod.mk.injEq, reduceCtorEq] at hv
    obtain ⟨rfl, rfl⟩ := hv
    exact ⟨_, rfl, h.ev ‹_›⟩
  case assign x =>
    split at hv <;> simp only [Option.some.injEq, Prod.mk.injEq, reduceCtorEq] at hv
    obtain ⟨rfl, rfl⟩ := hv
    exact ⟨_, rfl, h.ev ‹_›⟩
  case pick c x y =>
    split at hv
    · rename_i hc
      have e := rep_v_inv (h.ev hc)
      split at hv <;> simp only [Option.some.injEq, Prod.mk.injEq, reduceCtorEq] at hv
      rename_i d' hd'
      obtain ⟨rfl, rfl⟩ := hv
      refine ⟨_, ?_, h.ev hd'⟩
      simp [e, asBool]
    · rename_i hc
      have e := rep_v_inv (h.ev hc)
      split at hv <;> simp only [Option.some.injEq, Prod.mk.injEq, reduceCtorEq] at hv
      rename_i d' hd'
      obtain ⟨rfl, rfl⟩ := hv
      refine ⟨_, ?_, h.ev hd'⟩
      simp [e, asBool]
    · cases hv
  case load T x =>
    split at hv
    · rename_i dx hx
      obtain ⟨z, z1, z2⟩ := run_valLoad ht h hv hp (h.ev hx)
      exact ⟨z, by simp [z1], z2⟩
    · cases hv
  case nilCheck x =>
    split at hv
    · rename_i id i k hx
      simp only [Option.some.injEq, Prod.mk.injEq] at hv
      obtain ⟨rfl, rfl⟩ := hv
      have := h.ev hx
      refine ⟨_, ?_, this⟩
      cases hu : a.eval x <;> rw [hu] at this <;> first | (cases this; done) | skip
      cases this; rfl
    · rename_i r k hx
      simp only [Option.some.injEq, Prod.mk.injEq] at hv
      obtain ⟨rfl, rfl⟩ := hv
      have := h.ev hx
      refine ⟨_, ?_, this⟩
      cases hu : a.eval x <;> rw [hu] at this <;> first | (cases this; done) | skip
      cases this; rfl
    · cases hv
  case binOp op T x y yt =>
    split at hv
    · rename_i dx dy hx hy
      obtain ⟨z, z1, z2⟩ := run_dbin (P := P) (w := w) ht (xo := x) (yo := y) hv hp (h.ev hx) (h.ev hy)
      refine ⟨z, ?_, z2⟩
      rw [Sem.run_bind, z1]
      rfl
    · cases hv
  case unOp op T x =>
    split at hv
    · rename_i dx hx
      obtain ⟨z, z1, z2⟩ := run_sun (P := P) (w := w) hv (h.ev hx)
      exact ⟨z, by simp [z1], z2⟩
    · cases hv
  case convert src dst x =>
    split at hv
    · rename_i dx hx
      obtain ⟨z, z1, z2⟩ := run_valConvert ht h hv hp (h.ev hx)
      exact ⟨z, by simp [z1], z2⟩
    · cases hv
  case slice T x lo hi mx =>
    split at hv
    · rename_i dx l hh m hx hl hhh hm
      obtain ⟨z, z1, z2⟩ := run_valSlice ht h hv hp (h.ev hx) (h.evO hl) (h.evO hhh) (h.evO hm)
      exact ⟨z, by simp [z1], z2⟩
    · cases hv
  case fieldAddr S x f =>
    split at hv
    · rename_i dx hx
      obtain ⟨z, z1, z2⟩ := run_valFieldAddr (P := P) (w := w) ht hv hp (h.ev hx)
      exact ⟨z, by simp [z1], z2⟩
    · cases hv
  case field S x f =>
    split at hv
    · rename_i dx hx
      obtain ⟨z, z1, z2⟩ := run_valField (P := P) (w := w) ht hv hp (h.ev hx)
      exact ⟨z, by simp [z1], z2⟩
    · cases hv
  case indexAddr T x i =>
    split at hv
    · rename_i dx dy hx hy
      obtain ⟨z, z1, z2⟩ := run_valIndexAddr ht h hv hp (h.ev hx) (h.ev hy)
      exact ⟨z, by simp [z1], z2⟩
    · cases hv
  case index T x i =>
    split at hv
    · rename_i dx dy hx hy
      obtain ⟨z, z1, z2⟩ := run_valIndex (P := P) (w := w) ht hv hp (h.ev hx) (h.ev hy)
      exact ⟨z, by simp [z1], z2⟩
    · cases hv
  case extract t k =>
    split at hv
    · rename_i dx hx
      obtain ⟨z, z1, z2⟩ := run_valExtract (P := P) (w := w) hv hp (h.ev hx)
      exact ⟨z, by simp [z1], z2⟩
    · cases hv
  case build T parts =>
    split at hv
    · rename_i ds hds
      obtain ⟨z, z1, z2⟩ := run_valBuild (P := P) (w := w) ht hv hp (h.evL hds)
      exact ⟨z, by simp [z1], z2⟩
    · cases hv
  case makeFunc f first caps =>
    split at hv
    · rename_i d1 ds hfirst hds
      simp only [Option.some.injEq, Prod.mk.injEq] at hv
      obtain ⟨rfl, rfl⟩ := hv
      obtain ⟨r1, r2⟩ := RepL.get (h.evL hfirst)
      obtain ⟨q1, q2⟩ := RepL.get (h.evL hds)
      simp only [List.length_map, Array.length_toList] at q1 r1
      refine ⟨.func f (first.map a.eval) (caps.map a.eval), by simp [Instr.makeFunc], .fn _ _ _ _ _ _ (by simp; omega) (by simp; omega) fun i d x h1 h2 => ?_⟩
      rw [List.getElem?_append] at h1
      rw [Array.getElem?_append] at h2
      split at h1
      · rename_i hlt
        rw [if_pos (by simp; omega)] at h2
        exact r2 i d x h1 (by simpa using h2)
      · rename_i hlt
        rw [if_neg (by simp; omega)] at h2
        refine q2 (i - d1.length) d x h1 ?_
        rw [r1]
        simpa using h2
    · cases hv
  case call c =>
    obtain ⟨callee, args, argTypes⟩ := c
    simp only at hv ⊢
    split at hv
    · rename_i x T ha hT
      have ha' : args = #[x] := by apply Array.ext'; exact ha
      have hT' : argTypes = #[T] := by apply Array.ext'; exact hT
      subst ha' hT'
      split at hv
      · rename_i dx hx
        obtain ⟨z, z1, z2⟩ := run_valLen (P := P) (w := w) (ty := o.type) ht h.mem.imm hv (h.ev hx)
        exact ⟨z, by simp [resolve, invoke, builtin, z1], z2⟩
      · cases hv
    · split at hv
      · rename_i ds hds
        obtain ⟨z, z1, z2⟩ := run_valMin (P := P) (w := w) (tys := argTypes) (ty := o.type) hv (h.evL hds)
        refine ⟨z, ?_, z2⟩
        have e : (args.toList.map a.eval).toArray = args.map a.eval := by apply Array.ext'; simp
        rw [e] at z1
        simp [resolve, invoke, builtin, z1]
      · cases hv
    · split at hv
      · rename_i ds hds
        obtain ⟨z, z1, z2⟩ := run_valMax (P := P) (w := w) (tys := argTypes) (ty := o.type) hv (h.evL hds)
        refine ⟨z, ?_, z2⟩
        have e : (args.toList.map a.eval).toArray = args.map a.eval := by apply Array.ext'; simp
        rw [e] at z1
        simp [resolve, invoke, builtin, z1]
      · cases hv
    · cases hv

end
end Go.Ab
