import Derived.Test.YtglcnghfmdcdpaaAbE
import Derived.RangeFuncRecord
namespace Go.Ab
set_option linter.unusedSimpArgs false
set_option linter.unusedVariables false
def wr (r : Option Nat) : Fence := { Fence.wide with round := r }
theorem wr_none : wr none = Fence.wide := rfl
def noDef (o : Oper) : Bool := match o.op with
  | .defer _ => false
  | _ => true
theorem noDef_ne {o : Oper} (h : noDef o = true) (c : Call) : o.op ≠ .defer c := by
  intro e; simp [noDef, e] at h
section
variable {P : Program} {E : Ent} {st : St} {a : Act} {w w' : World} {ρ : Locs} {I J : Imm} {tt : TypeId → Option TI}
theorem callsIn_wr {r : Option Nat} {n : Nat} {f : FuncId} {args : Array Value} {w : World} {R : Ending → World → Prop} (h : Calls P f args w R) : CallsIn (wr r) n P f args w R :=
  (callsIn_wide (n := n)).2 h
theorem wpIn_value {r : Option Nat} {o : Oper} {a : Act} {w w' : World} {v : Value} {next : Act → World → Prop} {Q : Exit → Act → World → Prop} (hd : noDef o = true) (hr : (execOp a.eval o).run P w = .ok (.value v) w') (h : next (a.put o.dst v) w') : o.wpIn (wr r) 0 P a w next Q := by
  refine ⟨fun _ _ => trivial, ?_⟩
  rw [show (wr r).round = r from rfl, Oper.semAt_eq r a.eval o (noDef_ne hd), hr]
  exact h
theorem wpIn_skipO {r : Option Nat} {o : Oper} {a : Act} {w w' : World} {next : Act → World → Prop} {Q : Exit → Act → World → Prop} (hd : noDef o = true) (hr : (execOp a.eval o).run P w = .ok .skip w') (h : next (a.put o.dst undef) w') : o.wpIn (wr r) 0 P a w next Q := by
  refine ⟨fun _ _ => trivial, ?_⟩
  rw [show (wr r).round = r from rfl, Oper.semAt_eq r a.eval o (noDef_ne hd), hr]
  exact h
theorem wpIn_enter {r : Option Nat} {o : Oper} {a : Act} {w w' : World} {f : FuncId} {vs : Array Value} {next : Act → World → Prop} {Q : Exit → Act → World → Prop} (hd : noDef o = true) (hr : (execOp a.eval o).run P w = .ok (.enter f vs) w')
    (h : Calls P f vs w' fun e w'' => ∃ v, e = .returned v ∧ next (a.put o.dst v) w'') : o.wpIn (wr r) 0 P a w next Q := by
  refine ⟨fun _ _ => trivial, ?_⟩
  rw [show (wr r).round = r from rfl, Oper.semAt_eq r a.eval o (noDef_ne hd), hr, Oper.uponIn_enter]
  refine ⟨(fun q => by cases q), callsIn_wr (h.mono fun e w'' ⟨v, he, hn⟩ => ?_)⟩
  subst he
  exact hn
theorem wpIn_roundO {r : Option Nat} {o : Oper} {a : Act} {w w' : World} {l : Nat} {f : FuncId} {tmps : Array Value} {assign body : Code} {next : Act → World → Prop} {Q : Exit → Act → World → Prop} (hd : noDef o = true) (hr : (execOp a.eval o).run P w = .ok (.round l f tmps assign body) w')
    (h : RoundIn (wr r) 0 P l f tmps assign body w' fun e w'' => ∃ v, e = .returned v ∧ next (a.put o.dst v) w'') : o.wpIn (wr r) 0 P a w next Q := by
  refine ⟨fun _ _ => trivial, ?_⟩
  rw [show (wr r).round = r from rfl, Oper.semAt_eq r a.eval o (noDef_ne hd), hr, Oper.uponIn_round]
  refine ⟨(fun q => by cases q), h.mono fun e w'' ⟨v, he, hn⟩ => ?_⟩
  subst he
  exact hn
theorem wpOpsIn_of_aops (ht : TTok P tt) {r : Option Nat} {ops : Array Oper} {K : St → Prop} {Q : Exit → Act → World → Prop} {more : List Nat}
    (hK : ∀ st' a' w', K st' → R E st' a' w' → wpOpsIn (wr r) 0 P ops Q more a' w') :
    ∀ (is : List Nat) (l : List Oper) (id : Nat) (st : St) (a : Act) (w : World), is.map (ops[·]?) = l.map some → l.all noDef = true → aops P tt ops K id l st → R E st a w → wpOpsIn (wr r) 0 P ops Q (is ++ more) a w
  | [], [], id, st, a, w, _, _, hop, hR => hK st a w hop hR
  | [], o :: rest, id, st, a, w, hl, _, _, _ => by simp at hl
  | i :: is, [], id, st, a, w, hl, _, _, _ => by simp at hl
  | i :: is, o :: rest, id, st, a, w, hl, hnd, hop, hR => by
    simp only [List.map_cons, List.cons.injEq] at hl
    obtain ⟨hok, hrest⟩ := hl
    simp only [List.all_cons, Bool.and_eq_true] at hnd
    obtain ⟨hd, hnd⟩ := hnd
    simp only [List.cons_append, wpOpsIn, hok]
    obtain ⟨ρ, I, h⟩ := hR
    simp only [aops] at hop
    split at hop
    · rename_i hw
      rw [h.want hw]
      simp only [Bool.false_eq_true, if_false]
      exact ⟨fun _ _ => trivial, wpOpsIn_of_aops ht hK is rest (id + 1) _ _ _ hrest hnd hop.2 ⟨ρ, I, h.put hop.1 (.v _ _)⟩⟩
    · rename_i hw
      rw [h.want hw]
      simp only [if_true]
      split at hop
      · rename_i p st1 d he
        obtain ⟨nx, v, w', r1, r2, ρ', J, r3, r4⟩ := h.exec1 ht he hop.1
        have hnext := wpOpsIn_of_aops ht hK is rest (id + 1) _ (a.put o.dst v) w' hrest hnd hop.2.2 ⟨ρ', J, r3.put hop.2.1 r4⟩
        rcases r2 with rfl | ⟨rfl, rfl⟩
        · exact wpIn_value hd r1 hnext
        · exact wpIn_skipO hd r1 hnext
      · split at hop
        · rename_i f args hc
          obtain ⟨hfn, hvc⟩ := hop
          obtain ⟨vs, r1, r2⟩ := h.callOf hc hfn
          refine wpIn_enter hd r1 ?_
          rcases hvc with ⟨ids, p, ds, hpur, hp, ⟨r, objs, c1, c2, c3⟩ | ⟨r, c1, c2, c3⟩ | ⟨r, objs, c1, c2, c4, c5, c3⟩⟩ | ⟨gs, ins, ds, r, outs, ids, p, q1, q2, q3, q4, q5, q6, q7, q8, q9, q10, q11, c3⟩
          · refine (h.callPure (id + 100000) hpur hp r2 c1 c2).mono fun e w' ⟨v, he, ρ', J, d1, d2⟩ => ⟨v, he, ?_⟩
            exact wpOpsIn_of_aops ht hK is rest (id + 1) _ _ _ hrest hnd c3.2 ⟨ρ', J, d1.put c3.1 d2⟩
          · refine (h.callScal hpur hp r2 c1 c2).mono fun e w' ⟨v, he, ρ', J, d1, d2⟩ => ⟨v, he, ?_⟩
            exact wpOpsIn_of_aops ht hK is rest (id + 1) _ _ _ hrest hnd c3.2 ⟨ρ', J, d1.put c3.1 d2⟩
          · refine (h.callOwn (id + 100000) hpur hp r2 c1 c2 c4 c5).mono fun e w' ⟨v, he, ρ', J, d1, d2⟩ => ⟨v, he, ?_⟩
            exact wpOpsIn_of_aops ht hK is rest (id + 1) _ _ _ hrest hnd c3.2 ⟨ρ', J, d1.put c3.1 d2⟩
          · refine (h.callM (id + 100000) q1 q2 r2 rfl q3 q4 q5 q6 q7 q8 q9 q10 q11).mono fun e w' ⟨v, he, ρ', J, d1, d2⟩ => ⟨v, he, ?_⟩
            exact wpOpsIn_of_aops ht hK is rest (id + 1) _ _ _ hrest hnd c3.2 ⟨ρ', J, d1.put c3.1 d2⟩
        · split at hop
          · rename_i p neg hn
            obtain ⟨b, hb, hrun⟩ := h.nilCmp ht hn
            have := hop b hb
            exact wpIn_value hd hrun (wpOpsIn_of_aops ht hK is rest (id + 1) _ _ _ hrest hnd this.2 ⟨ρ, I, h.put this.1 (.v _ _)⟩)
          · split at hop
            · rename_i kd hn
              have hop := hop w.heap.size
              have hrun : (execOp a.eval o).run P w = .ok (.value (.map (some w.heap.size))) (w.alloc (.map #[] 0)) := by
                unfold newMapOf at hn
                split at hn
                · rename_i T ho
                  unfold execOp
                  rw [ho]
                  rfl
                · cases hn
              exact wpIn_value hd hrun (wpOpsIn_of_aops ht hK is rest (id + 1) _ _ _ hrest hnd hop.2 ⟨ρ, I, RB.put (h.mapMade kd) hop.1 (.v _ _)⟩)
            · exact hop.elim
    · exact hop.elim
def AWPI (r : Option Nat) (P : Program) (E : Ent) (c : Code) (Q : Exit → St → Prop) (st : St) : Prop :=
  ∀ a w, R E st a w → c.wpIn (wr r) 0 P (fun e a' w' => ∃ st', Q e st' ∧ R E st' a' w') a w
def thenI (r : Option Nat) (P : Program) (E : Ent) (y : Code) (Q : Exit → St → Prop) : Exit → St → Prop
  | .normal, st => AWPI r P E y Q st
  | e, st => Q e st
variable {r : Option Nat} {Q : Exit → St → Prop}
theorem awpI_le {c : Code} {st' : St} (h : AWPI r P E c Q st') (hl : st'.le st) : AWPI r P E c Q st := fun a w hR => h a w (hR.le hl)
theorem awpI_skip (h : Q .normal st) : AWPI r P E .skip Q st := fun a w hR => wpIn_skip ⟨st, h, hR⟩
theorem awpI_exit {id : Nat} (h : Q (.exit id) st) : AWPI r P E (.exit id) Q st := fun a w hR => wpIn_exit ⟨st, h, hR⟩
theorem awpI_seq {x y : Code} (h : AWPI r P E x (thenI r P E y Q) st) : AWPI r P E (.seq x y) Q st := by
  intro a w hR
  refine wpIn_seq (wpIn_mono (h a w hR) fun e a' w' ⟨st', q, r⟩ => ?_)
  cases e with
  | normal => exact q a' w' r
  | _ => exact ⟨st', q, r⟩
theorem awpI_cond {c : Operand} {x y : Code} {t : Bool} (hc : st.ev c = some (.v (.bool t))) (h1 : t = true → AWPI r P E x Q st) (h2 : t = false → AWPI r P E y Q st) : AWPI r P E (.cond c x y) Q st := by
  intro a w hR
  have he : a.eval c = .bool t := by
    obtain ⟨ρ, I, h⟩ := hR
    exact rep_v_inv (h.ev hc)
  exact wpIn_cond_split he (fun q => h1 q a w hR) (fun q => h2 q a w hR)
theorem awpI_block {id : Nat} {c : Code} (h : AWPI r P E c (blockA id Q) st) : AWPI r P E (.block id c) Q st := by
  intro a w hR
  refine wpIn_block (wpIn_mono (h a w hR) fun e a' w' ⟨st', q, r⟩ => ?_)
  cases e with
  | exit id' =>
    simp only [blockA] at q
    simp only [Exit.inBlock]
    split at q
    · rename_i e; rw [if_pos e]; exact ⟨st', q, r⟩
    · rename_i e; rw [if_neg e]; exact ⟨st', q, r⟩
  | _ => exact ⟨st', q, r⟩
theorem range_map_get {ops : Array Oper} : (List.range ops.size).map (ops[·]?) = ops.toList.map some := by
  apply List.ext_getElem?
  intro i
  by_cases h : i < ops.size
  · simp [h]
  · simp [h, Array.getElem?_eq_none (Nat.le_of_not_lt h)]
theorem awpI_region (ht : TTok P tt) {rid : Nat} {ops : Array Oper} (id : Nat) (hd : ops.toList.all noDef = true) (h : aops P tt ops (fun st' => Q .normal st') id ops.toList st) : AWPI r P E (.region rid ops false) Q st := by
  intro a w hR
  refine wpIn_region ?_
  have := wpOpsIn_of_aops ht (r := r) (ops := ops) (more := []) (Q := fun e a' w' => ∃ st', Q e st' ∧ R E st' a' w') (fun st' a' w' q r => ⟨st', q, r⟩) (List.range ops.size) ops.toList id st a w range_map_get hd h hR
  simpa using this
end
section
variable {P : Program} {E : Ent} {st : St} {a : Act} {w w' : World} {ρ : Locs} {I : Imm} {tt : TypeId → Option TI} {G : Type} {J : G → World → Imm → Prop} {Ib : Imm} {g : G}
def Stable (J : World → Imm → Prop) : Prop := ∀ w w' I I', J w I → Ext (fun _ => False) w w' → (∀ b c, I b = some c → I' b = some c) → (∀ b c, I' b = some c → I b = some c ∨ w.heap.size ≤ b) → ImmOk I' w' → J w' I'
structure YE (J : G → World → Imm → Prop) (Ib : Imm) (g : G) (E : Ent) : Prop where
  m : ∀ b, ¬ E.M b
  j : J g E.w0 E.I0
  dfs : E.dfs = []
  base : ∀ b c, Ib b = some c → E.I0 b = some c
theorem YE.now (hs : ∀ g, Stable (J g)) (hy : YE J Ib g E) (h : RB E st a w ρ I) : J g w I :=
  hs g _ _ _ _ hy.j ⟨h.ext.os, h.ext.tape, h.ext.output, h.ext.size, fun k hk _ => h.ext.block k hk (hy.m k)⟩ h.i0 (fun b c q => by
    rcases h.i1 b c q with q | q | q
    · exact .inl q
    · exact (hy.m b q).elim
    · exact .inr q) h.mem.imm
def YWP (P : Program) (J : G → World → Imm → Prop) (Ib : Imm) (c : Code) (Q : Exit → G → St → Prop) (g : G) (st : St) : Prop :=
  ∀ E, YE J Ib g E → ∀ a w, R E st a w → c.wp P (fun e a' w' => ∃ g' st' E', YE J Ib g' E' ∧ Q e g' st' ∧ R E' st' a' w') a w
def thenY (P : Program) (J : G → World → Imm → Prop) (Ib : Imm) (y : Code) (Q : Exit → G → St → Prop) : Exit → G → St → Prop
  | .normal, g, st => YWP P J Ib y Q g st
  | e, g, st => Q e g st
def blockY (id : Nat) (Q : Exit → G → St → Prop) : Exit → G → St → Prop
  | .exit id', g, st => if id' = id then Q .normal g st else Q (.exit id') g st
  | e, g, st => Q e g st
variable {Q : Exit → G → St → Prop}
theorem ywp_awp {c : Code} (h : ∀ E, AWP P E c (fun e s => Q e g s) st) : YWP P J Ib c Q g st := fun E hE a w hR =>
  wp_mono (h E a w hR) fun e a' w' ⟨st', q, r⟩ => ⟨g, st', E, hE, q, r⟩
theorem ywp_le {c : Code} {st' : St} (h : YWP P J Ib c Q g st') (hl : st'.le st) : YWP P J Ib c Q g st := fun E hE a w hR => h E hE a w (hR.le hl)
theorem ywp_mono {c : Code} {Q' : Exit → G → St → Prop} (h : YWP P J Ib c Q g st) (hq : ∀ e g s, Q e g s → Q' e g s) : YWP P J Ib c Q' g st := fun E hE a w hR =>
  wp_mono (h E hE a w hR) fun e a' w' ⟨g', st', E', hy, q, r⟩ => ⟨g', st', E', hy, hq _ _ _ q, r⟩
theorem ywp_skip (h : Q .normal g st) : YWP P J Ib .skip Q g st := fun E hE a w hR => wp_skip ⟨g, st, E, hE, h, hR⟩
theorem ywp_exit {id : Nat} (h : Q (.exit id) g st) : YWP P J Ib (.exit id) Q g st := fun E hE a w hR => wp_exit ⟨g, st, E, hE, h, hR⟩
theorem ywp_ret (h : Q .ret g st) : YWP P J Ib .ret Q g st := fun E hE a w hR => wp_ret ⟨g, st, E, hE, h, hR⟩
theorem ywp_seq {x y : Code} (h : YWP P J Ib x (thenY P J Ib y Q) g st) : YWP P J Ib (.seq x y) Q g st := by
  intro E hE a w hR
  refine wp_seq (wp_mono (h E hE a w hR) fun e a' w' ⟨g', st', E', hy, q, r⟩ => ?_)
  cases e with
  | normal => exact q E' hy a' w' r
  | _ => exact ⟨g', st', E', hy, q, r⟩
theorem ywp_cond {c : Operand} {x y : Code} {t : Bool} (hc : st.ev c = some (.v (.bool t))) (h1 : t = true → YWP P J Ib x Q g st) (h2 : t = false → YWP P J Ib y Q g st) : YWP P J Ib (.cond c x y) Q g st := by
  intro E hE a w hR
  have he : a.eval c = .bool t := by
    obtain ⟨ρ, I, h⟩ := hR
    exact rep_v_inv (h.ev hc)
  exact wp_cond_split he (fun q => h1 q E hE a w hR) (fun q => h2 q E hE a w hR)
theorem ywp_block {id : Nat} {c : Code} (h : YWP P J Ib c (blockY id Q) g st) : YWP P J Ib (.block id c) Q g st := by
  intro E hE a w hR
  refine wp_block (wp_mono (h E hE a w hR) fun e a' w' ⟨g', st', E', hy, q, r⟩ => ?_)
  cases e with
  | exit id' =>
    simp only [blockY] at q
    simp only [Exit.inBlock]
    split at q
    · rename_i e; rw [if_pos e]; exact ⟨g', st', E', hy, q, r⟩
    · rename_i e; rw [if_neg e]; exact ⟨g', st', E', hy, q, r⟩
  | _ => exact ⟨g', st', E', hy, q, r⟩
def loopY {X : Type} (T : X → St) (Gh : X → G) (Inv : X → Prop) (μ : X → Nat) (x : X) (Q : Exit → G → St → Prop) : Exit → G → St → Prop
  | .normal, g, st => ∃ x', Inv x' ∧ μ x' < μ x ∧ Gh x' = g ∧ (T x').le st
  | e, g, st => Q e g st
theorem ywp_loop {X : Type} {c : Code} (T : X → St) (Gh : X → G) (Inv : X → Prop) (μ : X → Nat) (x0 : X) (h0 : Inv x0) (hg : Gh x0 = g) (hle : (T x0).le st) (round : ∀ x, Inv x → YWP P J Ib c (loopY T Gh Inv μ x Q) (Gh x) (T x)) : YWP P J Ib (.loop c) Q g st := by
  intro E hE a w hR
  refine wp_loop_x (fun x a w => Inv x ∧ ∃ E, YE J Ib (Gh x) E ∧ R E (T x) a w) μ (fun x a w ⟨hi, E, hE, hr⟩ => wp_mono (round x hi E hE a w hr) fun e a' w' ⟨g', st', E', hy, q, r⟩ => ?_) x0 a w ⟨h0, E, hg ▸ hE, hR.le hle⟩
  cases e with
  | normal =>
    obtain ⟨x', q1, q2, q3, q4⟩ := q
    exact ⟨x', ⟨q1, E', q3 ▸ hy, r.le q4⟩, q2⟩
  | _ => exact ⟨g', st', E', hy, q, r⟩
def GCalls (P : Program) (J : G → World → Imm → Prop) (f : FuncId) (ds : List D) (g : G) (K : D → G → Prop) : Prop :=
  ∀ w I vs, J g w I → ImmOk I w → RepL I noLocs ds vs → Calls P f vs.toArray w fun e w' => ∃ v r g' I', e = .returned v ∧ K r g' ∧ Rep I' noLocs r v ∧ (∀ b c, I b = some c → I' b = some c) ∧ ImmOk I' w' ∧ J g' w' I'
def GYield (P : Program) (J : G → World → Imm → Prop) (l : Nat) (ds : List D) (g : G) (K : D → G → Prop) : Prop :=
  ∀ w I vs, J g w I → ImmOk I w → RepL I noLocs ds vs → ∃ fn tmps assign body, (Instr.yield l vs.toArray).run P w = .ok (.round l fn tmps assign body) w ∧ RoundIn (wr none) 0 P l fn tmps assign body w fun e w' =>
    ∃ v r g' I', e = .returned v ∧ K r g' ∧ Rep I' noLocs r v ∧ (∀ b c, I b = some c → I' b = some c) ∧ ImmOk I' w' ∧ J g' w' I'
structure Bare (T s : St) : Prop where
  n : T.n = s.n
  slots : ∀ t d, T.slots t = some d → s.slots t = some d ∧ d.all (fun _ => false) = true
  heap : ∀ id, T.heap id = none
  mp : T.mp = none
theorem Bare.run {T s : St} (hb : Bare T s) {I I' : Imm} (h : RB E s a w ρ I) (hd : E.dfs = []) (hI : ∀ b c, I b = some c → I' b = some c) (himm : ImmOk I' w') : RB ⟨w', fun _ => False, I', noLocs, []⟩ T a w' noLocs I' where
  size := by rw [hb.n]; exact h.size
  defers := by rw [h.defers, hd]
  slots t d q := by
    obtain ⟨q1, q2⟩ := hb.slots t d q
    obtain ⟨q3, q4⟩ := h.slots t d q1
    exact ⟨by rw [hb.n]; exact q3, (q4.imm hI).pure q2⟩
  mem := ⟨(fun id o q => by rw [hb.heap] at q; cases q), (fun i1 o1 l1 i2 o2 l2 b q => by rw [hb.heap] at q; cases q), himm⟩
  i0 _ _ q := q
  i1 _ _ q := .inl q
  ext := Ext.refl _ _
  fresh id o l b q := by rw [hb.heap] at q; cases q
  pins id o q := by rw [hb.heap] at q; cases q
  mp m q := by rw [hb.mp] at q; cases q
def SpecI (P : Program) (J : G → World → Imm → Prop) (Ib : Imm) (ops : Array Oper) (o : Oper) (g : G) (s : St) (K : G → St → Prop) : Prop :=
  (s.want ops o = some false ∧ s.fits o.dst = true ∧ K g (s.put o.dst (.v (.tuple #[])))) ∨
  (s.want ops o = some true ∧ ∀ E, YE J Ib g E → ∀ a w, R E s a w → ∀ next Q', (∀ g' s' E' a' w', YE J Ib g' E' → K g' s' → R E' s' a' w' → next a' w') → o.wpIn (wr none) 0 P a w next Q')
def SpecO (P : Program) (J : G → World → Imm → Prop) (Ib : Imm) (ops : Array Oper) (o : Oper) (g : G) (s : St) (K : G → St → Prop) : Prop :=
  (s.want ops o = some false ∧ s.fits o.dst = true ∧ K g (s.put o.dst (.v (.tuple #[])))) ∨
  (s.want ops o = some true ∧ ∀ E, YE J Ib g E → ∀ a w, R E s a w → ∀ next Q', (∀ g' s' E' a' w', YE J Ib g' E' → K g' s' → R E' s' a' w' → next a' w') → o.wp P a w next Q')
theorem specO_call {f : FuncId} {o : Oper} {ops : Array Oper} {s T : St} {args ds : List D} {ids : List Nat} {p : Prop} {K : G → St → Prop} {Kr : D → G → Prop} (hs : ∀ g, Stable (J g)) (hw : s.want ops o = some true) (hf : FnOk P f) (hc : s.callOf o.op = some (f, args))
    (hpur : purL (pur s.heap 4) args = some (ids, p, ds)) (hp : p) (hg : GCalls P J f ds g Kr) (hT : Bare T s) (hfit : T.fits o.dst = true) (hK : ∀ r g', Kr r g' → K g' (T.put o.dst r)) : SpecO P J Ib ops o g s K := by
  refine .inr ⟨hw, fun E hE a w ⟨ρ, I, h⟩ next Q' hn => ?_⟩
  obtain ⟨vs, r1, r2⟩ := h.callOf hc hf
  obtain ⟨J1, hJ1, h', hds⟩ := h.purL hpur hp r2
  unfold Oper.wp
  rw [r1, Oper.upon_enter]
  refine (hg w J1 vs (hE.now hs h') h'.mem.imm hds).mono fun e w' ⟨v, r, g', I', he, hk, hrep, hsub, himm, hj⟩ => ?_
  subst he
  have hb := hT.run (w' := w') h hE.dfs (fun b c q => hsub b c (hJ1 b c q)) himm
  exact hn g' _ ⟨w', fun _ => False, I', noLocs, []⟩ _ _ ⟨fun _ q => q, hj, rfl, fun b c q => hsub b c (hJ1 b c (h.i0 b c (hE.base b c q)))⟩ (hK r g' hk) ⟨noLocs, I', hb.put hfit hrep⟩
theorem specI_yield {l : Nat} {o : Oper} {ops : Array Oper} {c : Call} {fo : Operand} {s T : St} {args ds : List D} {ids : List Nat} {p : Prop} {K : G → St → Prop} {Kr : D → G → Prop} (hs : ∀ g, Stable (J g)) (hw : s.want ops o = some true) (ho : o.op = .call c) (hcal : c.callee = .value fo) (hfo : s.ev fo = some (.fn (.yield l) 0 []))
    (ha : s.evL c.args.toList = some args) (hpur : purL (pur s.heap 4) args = some (ids, p, ds)) (hp : p) (hg : GYield P J l ds g Kr) (hT : Bare T s) (hfit : T.fits o.dst = true) (hK : ∀ r g', Kr r g' → K g' (T.put o.dst r)) : SpecI P J Ib ops o g s K := by
  refine .inr ⟨hw, fun E hE a w ⟨ρ, I, h⟩ next Q' hn => ?_⟩
  have hv := h.ev hfo
  obtain ⟨J1, hJ1, h', hds⟩ := h.purL hpur hp (h.evL ha)
  have hfv : a.eval fo = .func (.yield l) #[] #[] := by
    generalize a.eval fo = v at hv
    cases hv with
    | fn _ _ _ _ fs vs hn hl _ =>
      simp only [Array.size_append, List.length_nil] at hl
      have e1 : fs = #[] := Array.eq_empty_of_size_eq_zero (by omega)
      have e2 : vs = #[] := Array.eq_empty_of_size_eq_zero (by omega)
      rw [e1, e2]
  obtain ⟨fn, tmps, assign, body, hy, hR⟩ := hg w J1 _ (hE.now hs h') h'.mem.imm hds
  have hrun : (execOp a.eval o).run P w = .ok (.round l fn tmps assign body) w := by
    unfold execOp
    simp only [ho, Sem.run_bind, resolve, hcal, hfv, Deferred.ofValue, Sem.run_pure, Result.andThen_ok, invoke]
    rw [← hy]
    congr 2
    apply Array.ext'
    simp
  refine wpIn_roundO (by unfold noDef; rw [ho]) hrun (hR.mono fun e w' ⟨v, r, g', I', he, hk, hrep, hsub, himm, hj⟩ => ⟨v, he, ?_⟩)
  have hb := hT.run (w' := w') h hE.dfs (fun b c q => hsub b c (hJ1 b c q)) himm
  exact hn g' _ ⟨w', fun _ => False, I', noLocs, []⟩ _ _ ⟨fun _ q => q, hj, rfl, fun b c q => hsub b c (hJ1 b c (h.i0 b c (hE.base b c q)))⟩ (hK r g' hk) ⟨noLocs, I', hb.put hfit hrep⟩
theorem getElem_split {ops : Array Oper} {l1 l2 : List Oper} {o : Oper} (h : ops.toList = l1 ++ o :: l2) :
    (List.range ops.size = List.range l1.length ++ (l1.length :: List.range' (l1.length + 1) l2.length)) ∧ (List.range l1.length).map (ops[·]?) = l1.map some ∧ ops[l1.length]? = some o ∧ (List.range' (l1.length + 1) l2.length).map (ops[·]?) = l2.map some := by
  have hsz : ops.size = l1.length + (1 + l2.length) := by rw [← Array.length_toList, h]; simp; omega
  have hget : ∀ i : Nat, ops[i]? = (l1 ++ o :: l2)[i]? := fun i => by rw [← h]; simp
  refine ⟨?_, ?_, ?_, ?_⟩
  · rw [hsz, List.range_eq_range', List.range_eq_range', ← List.range'_append_1, ← List.range'_append_1]
    simp [List.range'_one]
  · apply List.ext_getElem?
    intro i
    by_cases hi : i < l1.length
    · simp [hi, hget, List.getElem?_append]
    · simp [hi, List.getElem?_eq_none (Nat.le_of_not_lt hi)]
  · rw [hget]; simp
  · apply List.ext_getElem?
    intro i
    by_cases hi : i < l2.length
    · simp [List.getElem?_range', hi, hget, List.getElem?_append, show ¬ l1.length + 1 + i < l1.length by omega, show l1.length + 1 + i - l1.length = i + 1 by omega]
    · simp [List.getElem?_range', hi, List.getElem?_eq_none (Nat.le_of_not_lt hi)]
theorem oper_wp_mono {o : Oper} {a : Act} {w : World} {K K' : Act → World → Prop} {Q1 Q2 : Exit → Act → World → Prop} (h : ∀ a w, K a w → K' a w) (hq : ∀ e a w, e ≠ .normal → Q1 e a w → Q2 e a w) (hh : o.wp P a w K Q1) : o.wp P a w K' Q2 := by
  have hl : LetsOut Q1 → LetsOut Q2 := fun ⟨a, w, q⟩ => ⟨a, w, hq _ _ _ (by simp) q⟩
  unfold Oper.wp at *
  generalize (execOp a.eval o).run P w = r at *
  cases r with
  | ok n w' =>
    cases n with
    | value v => exact h _ _ hh
    | skip => exact h _ _ hh
    | defer d => exact h _ _ hh
    | enter f args =>
      rw [Oper.upon_enter] at hh ⊢
      refine hh.mono fun e w'' q => ?_
      cases e with
      | returned v => exact h _ _ q
      | panicked c => exact hq _ _ _ (by simp) q
      | outgrown => exact hl q
    | row x y =>
      rw [Oper.upon_row] at hh ⊢
      exact hh.mono fun v w'' q => h _ _ q
    | _ => first | exact hh | exact hh.elim
  | halt x w' =>
    cases x with
    | panic v => exact hq _ _ _ (by simp) hh
    | _ => first | exact hh | exact hh.elim
theorem wpOps_then {ops pre : Array Oper} {Q1 Q2 : Exit → Act → World → Prop} {tail : List Nat} (hag : ∀ i, i < pre.size → ops[i]? = pre[i]?) (hgd : ∀ (i : Nat) o j b, pre[i]? = some o → o.guard = some (j, b) → j < pre.size)
    (hn : ∀ a w, Q1 .normal a w → wpOps P ops Q2 tail a w) (hq : ∀ e a w, e ≠ .normal → Q1 e a w → Q2 e a w) : ∀ (l : List Nat) (a : Act) (w : World), (∀ i ∈ l, i < pre.size) → wpOps P pre Q1 l a w → wpOps P ops Q2 (l ++ tail) a w
  | [], a, w, _, h => hn a w h
  | i :: l, a, w, hl, h => by
    have hi := hl i (by simp)
    have ih := wpOps_then hag hgd hn hq l
    have ho : pre[i]? = some pre[i] := Array.getElem?_eq_getElem hi
    have hw : Region.wanted pre[i] (yielded ops a.tmps) = Region.wanted pre[i] (yielded pre a.tmps) := by
      unfold Region.wanted
      cases hg : pre[i].guard with
      | none => rfl
      | some q =>
        obtain ⟨j, b⟩ := q
        have hj := hgd i _ j b ho hg
        simp only [yielded, hag j hj]
    simp only [List.cons_append, wpOps, hag i hi, ho] at h ⊢
    rw [hw]
    split
    · rename_i hwt
      rw [if_pos hwt] at h
      rcases h with h | ⟨h1, a0, w0, h2⟩
      · exact .inl (oper_wp_mono (fun a w q => ih a w (fun i hi => hl i (by simp [hi])) q) hq h)
      · exact .inr ⟨h1, a0, w0, hq _ _ _ (by simp) h2⟩
    · rename_i hwt
      rw [if_neg hwt] at h
      exact ih _ _ (fun i hi => hl i (by simp [hi])) h
theorem wpOps_of_aopsM (ht : TTok P tt) {ops : Array Oper} {K : St → Prop} {Q : Exit → Act → World → Prop} {more : List Nat}
    (hK : ∀ st' a' w', K st' → R E st' a' w' → wpOps P ops Q more a' w') :
    ∀ (is : List Nat) (l : List Oper) (id : Nat) (st : St) (a : Act) (w : World), is.map (ops[·]?) = l.map some → aops P tt ops K id l st → R E st a w → wpOps P ops Q (is ++ more) a w
  | [], [], id, st, a, w, _, hop, hR => hK st a w hop hR
  | [], o :: rest, id, st, a, w, hl, _, _ => by simp at hl
  | i :: is, [], id, st, a, w, hl, _, _ => by simp at hl
  | i :: is, o :: rest, id, st, a, w, hl, hop, hR => by
    simp only [List.map_cons, List.cons.injEq] at hl
    obtain ⟨hok, hrest⟩ := hl
    simp only [List.cons_append, wpOps, hok]
    obtain ⟨ρ, I, h⟩ := hR
    simp only [aops] at hop
    split at hop
    · rename_i hw
      rw [h.want hw]
      simp only [Bool.false_eq_true, if_false]
      exact wpOps_of_aopsM ht hK is rest (id + 1) _ _ _ hrest hop.2 ⟨ρ, I, h.put hop.1 (.v _ _)⟩
    · rename_i hw
      rw [h.want hw]
      simp only [if_true]
      left
      unfold Oper.wp
      split at hop
      · rename_i p st1 d he
        obtain ⟨nx, v, w', r1, r2, ρ', J, r3, r4⟩ := h.exec1 ht he hop.1
        have hnext := wpOps_of_aopsM ht hK is rest (id + 1) _ (a.put o.dst v) w' hrest hop.2.2 ⟨ρ', J, r3.put hop.2.1 r4⟩
        rw [r1]
        rcases r2 with rfl | ⟨rfl, rfl⟩
        · exact hnext
        · exact hnext
      · split at hop
        · rename_i f args hc
          obtain ⟨hfn, hvc⟩ := hop
          obtain ⟨vs, r1, r2⟩ := h.callOf hc hfn
          rw [r1, Oper.upon_enter]
          rcases hvc with ⟨ids, p, ds, hpur, hp, ⟨r, objs, c1, c2, c3⟩ | ⟨r, c1, c2, c3⟩ | ⟨r, objs, c1, c2, c4, c5, c3⟩⟩ | ⟨gs, ins, ds, r, outs, ids, p, q1, q2, q3, q4, q5, q6, q7, q8, q9, q10, q11, c3⟩
          · refine (h.callPure (id + 100000) hpur hp r2 c1 c2).mono fun e w' ⟨v, he, ρ', J, d1, d2⟩ => ?_
            subst he
            exact wpOps_of_aopsM ht hK is rest (id + 1) _ _ _ hrest c3.2 ⟨ρ', J, d1.put c3.1 d2⟩
          · refine (h.callScal hpur hp r2 c1 c2).mono fun e w' ⟨v, he, ρ', J, d1, d2⟩ => ?_
            subst he
            exact wpOps_of_aopsM ht hK is rest (id + 1) _ _ _ hrest c3.2 ⟨ρ', J, d1.put c3.1 d2⟩
          · refine (h.callOwn (id + 100000) hpur hp r2 c1 c2 c4 c5).mono fun e w' ⟨v, he, ρ', J, d1, d2⟩ => ?_
            subst he
            exact wpOps_of_aopsM ht hK is rest (id + 1) _ _ _ hrest c3.2 ⟨ρ', J, d1.put c3.1 d2⟩
          · refine (h.callM (id + 100000) q1 q2 r2 rfl q3 q4 q5 q6 q7 q8 q9 q10 q11).mono fun e w' ⟨v, he, ρ', J, d1, d2⟩ => ?_
            subst he
            exact wpOps_of_aopsM ht hK is rest (id + 1) _ _ _ hrest c3.2 ⟨ρ', J, d1.put c3.1 d2⟩
        · split at hop
          · rename_i p neg hn
            obtain ⟨b, hb, hrun⟩ := h.nilCmp ht hn
            have := hop b hb
            rw [hrun]
            exact wpOps_of_aopsM ht hK is rest (id + 1) _ _ _ hrest this.2 ⟨ρ, I, h.put this.1 (.v _ _)⟩
          · split at hop
            · rename_i kd hn
              have hop := hop w.heap.size
              have hrun : (execOp a.eval o).run P w = .ok (.value (.map (some w.heap.size))) (w.alloc (.map #[] 0)) := by
                unfold newMapOf at hn
                split at hn
                · rename_i T ho
                  unfold execOp
                  rw [ho]
                  rfl
                · cases hn
              rw [hrun]
              exact wpOps_of_aopsM ht hK is rest (id + 1) _ _ _ hrest hop.2 ⟨ρ, I, RB.put (h.mapMade kd) hop.1 (.v _ _)⟩
            · exact hop.elim
    · exact hop.elim
def tailB (ops : Array Oper) (k : Nat) : Bool := (List.range ops.size).all fun i => decide (i < k) || (List.range i).all fun j => anc (ancsGo ops.toList []) i j
def preB (ops : Array Oper) (k : Nat) : Bool := ops.toList.all fun o => match o.guard with
  | none => true
  | some (j, _) => decide (j < k)
theorem closed_done {ops : Array Oper} {done : Nat → Bool} {i : Nat} (hr : Ready ops done i) (hc : Closed ops done) : Closed ops (fun j => j == i || done j) := by
  intro j o e hj ho he hbd
  simp only [Bool.or_eq_true, beq_iff_eq] at hj ⊢
  rcases hj with rfl | hj
  · exact .inr (hr o e ho he hbd)
  · exact .inr (hc j o e hj ho he hbd)
theorem topo_tail2 {ops : Array Oper} {k : Nat} (ht : tailB ops k = true) : ∀ {l : List Nat} {done : Nat → Bool} {i : Nat}, TopoSeq ops done l → Closed ops done → (∀ j, j < ops.size → (done j = true ↔ j < i)) → k ≤ i → i ≤ ops.size → l = List.range' i (ops.size - i)
  | [], done, i, h, hc, hd, hk, hi => by
    have : i = ops.size := by
      rcases Nat.lt_or_ge i ops.size with q | q
      · have := (hd i q).1 (h i q); omega
      · omega
    rw [this, Nat.sub_self]; rfl
  | x :: l, done, i, h, hc, hd, hk, hi => by
    obtain ⟨h1, h2, h3, h4⟩ := h
    have hx : i ≤ x := by
      rcases Nat.lt_or_ge x i with q | q
      · rw [(hd x h1).2 q] at h2; cases h2
      · exact q
    have hxi : x = i := by
      rcases Nat.lt_or_ge i x with q | q
      · simp only [tailB, List.all_eq_true, List.mem_range, Bool.or_eq_true, decide_eq_true_eq] at ht
        rcases ht x h1 with r | r
        · omega
        · have := ancs_ok ops x i (r i q) done hc h3
          have := (hd i (by omega)).1 this
          omega
      · omega
    subst hxi
    have := topo_tail2 ht (i := x + 1) h4 (closed_done h3 hc) (fun j hj => by
      simp only [Bool.or_eq_true, beq_iff_eq, hd j hj]; omega) (by omega) (by omega)
    rw [this, show ops.size - x = (ops.size - (x + 1)) + 1 by omega, List.range'_succ]
theorem topo_cut {ops : Array Oper} {k : Nat} (ht : tailB ops k = true) (hk : k ≤ ops.size) : ∀ {l : List Nat} {done : Nat → Bool}, TopoSeq ops done l → Closed ops done → (∀ j, k ≤ j → j < ops.size → done j = false) →
    ∃ l', l = l' ++ List.range' k (ops.size - k) ∧ (∀ i ∈ l', i < k) ∧ TopoSeq (ops.extract 0 k) done l'
  | [], done, h, hc, hd => by
    have hs : k = ops.size := by
      rcases Nat.lt_or_ge k ops.size with q | q
      · have := h k q; rw [hd k (Nat.le_refl _) q] at this; cases this
      · omega
    refine ⟨[], by rw [hs, Nat.sub_self]; rfl, by simp, fun i hi => h i ?_⟩
    simp at hi; omega
  | x :: l, done, h, hc, hd => by
    obtain ⟨h1, h2, h3, h4⟩ := h
    by_cases hx : x < k
    · obtain ⟨l', e1, e2, e3⟩ := topo_cut ht hk h4 (closed_done h3 hc) (fun j hj hs => by
        have hne : (j == x) = false := by rw [beq_eq_false_iff_ne]; omega
        rw [hne, hd j hj hs]; rfl)
      refine ⟨x :: l', by rw [e1]; rfl, fun i hi => ?_, ?_, h2, fun o e ho he hb => ?_, e3⟩
      · rcases List.mem_cons.1 hi with rfl | q
        · exact hx
        · exact e2 i q
      · simp; omega
      · refine h3 o e ?_ he hb
        rw [Array.getElem?_extract] at ho
        simp at ho
        exact ho.2
    · have hall : ∀ j, j < x → done j = true := fun j hj => by
        simp only [tailB, List.all_eq_true, List.mem_range, Bool.or_eq_true, decide_eq_true_eq] at ht
        rcases ht x h1 with r | r
        · exact absurd r hx
        · exact ancs_ok ops x j (r j hj) done hc h3
      have hxk : x = k := by
        rcases Nat.lt_or_ge k x with q | q
        · have := hall k q; rw [hd k (Nat.le_refl _) (by omega)] at this; cases this
        · omega
      subst hxk
      have := topo_tail2 ht (l := x :: l) (done := done) (i := x) ⟨h1, h2, h3, h4⟩ hc (fun j hj => ⟨(fun q => by
        rcases Nat.lt_or_ge j x with z | z
        · exact z
        · rw [hd j z hj] at q; cases q), fun q => hall j q⟩) (Nat.le_refl _) hk
      refine ⟨[], by rw [this]; rfl, by simp, fun i hi => hall i ?_⟩
      simp at hi; omega
def chkC (pre : Array Oper) (C : Ord) : Bool :=
  chk pre (ancsGo pre.toList []) C && ((List.range pre.size).all fun i => (C.map (·.1)).contains i) && decide ((C.map (·.1)).Nodup) && (C.all fun q => decide (q.1 < pre.size))
theorem gcalls_of_ywp {f : FuncId} {fn : Func} {c : Code} {n : Nat} {rs : List Tmp} {ds : List D} {K : D → G → Prop} (hs : ∀ g, Stable (J g)) (hf : P.funcs[f]? = some fn) (hb : fn.body = some c) (hn : fn.ntmps = n) (hds : ds.length ≤ n)
    (hrs : fn.results = (rs.map ResultVar.tmp).toArray) (h : ∀ Ib, YWP P J Ib c (fun e g' s => (e = .normal ∨ e = .ret) ∧ ∃ r, s.result rs = some r ∧ r.all (fun _ => false) = true ∧ K r g') g (startSt n ds)) : GCalls P J f ds g K := by
  intro w I vs hj hI hvs
  refine calls_of_wp hf hb ?_
  obtain ⟨v1, v2⟩ := RepL.get hvs
  let E : Ent := ⟨w, fun _ => False, I, noLocs, []⟩
  have hR : R E (startSt n ds) { tmps := vs.toArray ++ Array.replicate (fn.ntmps - vs.toArray.size) undef, defers := [] } w := by
    refine ⟨noLocs, I, ⟨by simp [startSt]; omega, rfl, fun t d hd => ?_, ⟨fun id o ho => by simp [startSt] at ho, fun i1 o1 l1 i2 o2 l2 b h1 => by simp [startSt] at h1, hI⟩, fun _ _ q => q, fun _ _ q => .inl q, Ext.refl _ _, fun id o l b ho => by simp [startSt] at ho, fun id o ho => by simp [startSt] at ho, fun m hm => by simp [startSt] at hm⟩⟩
    have hd' : ds[t]? = some d := hd
    have ht := (List.getElem?_eq_some_iff.1 hd').1
    refine ⟨by simp [startSt]; omega, ?_⟩
    have hx : vs[t]? = some (vs[t]'(by omega)) := List.getElem?_eq_getElem (by omega)
    have e : (vs.toArray ++ Array.replicate (fn.ntmps - vs.toArray.size) undef).getD t undef = vs[t]'(by omega) := by
      rw [Array.getD_eq_getD_getElem?, Array.getElem?_append_left (by simp; omega)]
      simp [hx]
    rw [e]
    exact v2 t d _ hd' hx
  refine wp_mono (h I E ⟨fun _ q => q, hj, rfl, fun _ _ q => q⟩ _ _ hR) fun e a' w' ⟨g', st', E', hy', ⟨he, r, hr, hp, hk⟩, ρ, I', hrb⟩ => ?_
  have key : a'.defers = [] ∧ ∃ v, (results fn a'.tmps).run P w' = .ok v w' ∧ ∃ v' r g' I', Ending.returned v = .returned v' ∧ K r g' ∧ Rep I' noLocs r v' ∧ (∀ b c, I b = some c → I' b = some c) ∧ ImmOk I' w' ∧ J g' w' I' :=
    ⟨by rw [hrb.defers, hy'.dfs], _, run_results hrs a'.tmps, _, r, g', I', rfl, hk, (hrb.result hr).pure hp, fun b c q => hrb.i0 b c (hy'.base b c q), hrb.mem.imm, hy'.now hs hrb⟩
  rcases he with rfl | rfl <;> exact key
def IterC {α : Type} (P : Program) (gf : FuncId) (caps : List D) (enc : α → D) (xs : List α) : Prop :=
  ∀ (l : Nat) (J : Bool × List α → World → Imm → Prop), (∀ g, Stable (J g)) →
    (∀ pre x, pre ++ [x] <+: xs → GYield P J l [enc x] (true, pre) (fun r g' => (r = .v (.bool true) ∧ g' = (true, pre ++ [x])) ∨ (r = .v (.bool false) ∧ g' = (false, pre ++ [x])))) →
    GCalls P J gf (.fn (.yield l) 0 [] :: caps) (true, []) (fun _ g' => g' = (true, xs) ∨ ∃ pre, pre <+: xs ∧ g' = (false, pre))
structure After (E E' : Ent) : Prop where
  mark : ∃ m, E'.dfs = [{ target := .collected m, args := #[] }] ∧ E.w0.heap.size ≤ m ∧ E'.w0.heap[m]? = some (.deferred (some [])) ∧ ¬ E'.M m
  ext : Ext E.M E.w0 E'.w0
  m : ∀ b, E'.M b → E.M b ∨ E.w0.heap.size ≤ b
  i0 : ∀ b c, E.I0 b = some c → E'.I0 b = some c
  i1 : ∀ b c, E'.I0 b = some c → E.I0 b = some c ∨ E.M b ∨ E.w0.heap.size ≤ b
  pin : E'.pin = E.pin
theorem Ext.putObj {M : Nat → Prop} {w0 w : World} (h : Ext M w0 w) {l : Nat} (o : Obj) (hl : M l ∨ w0.heap.size ≤ l) : Ext M w0 (w.putObj l o) :=
  ⟨h.os, h.tape, h.output, by simpa using h.size, fun k hk hm => by
    rw [World.putObj_heap_other]
    · exact h.block k hk hm
    · rintro rfl
      rcases hl with q | q
      · exact hm q
      · omega⟩
theorem RB.rebase (h : RB E st a w ρ I) {w2 : World} (hsame : ∀ (b : Nat) c e fr, w.heap[b]? = some (Obj.cells c e fr) → w2.heap[b]? = some (Obj.cells c e fr)) (hmp : st.mp = none) {M' : Nat → Prop} {pin' : Locs} {dfs' : List Deferred} {a' : Act} (ha : a'.tmps = a.tmps) (hd : a'.defers = dfs')
    (hM : ∀ id o l b, st.heap id = some o → o.wr = true → ρ id = some l → l.blk = some b → M' b ∨ w2.heap.size ≤ b) (hp : ∀ id o, st.heap id = some o → o.pin = true → ρ id = pin' id) : RB ⟨w2, M', I, pin', dfs'⟩ st a' w2 ρ I where
  size := by rw [ha]; exact h.size
  defers := hd
  slots t d q := by rw [ha]; exact h.slots t d q
  mem := ⟨fun id o q => by
    obtain ⟨l, hl, k⟩ := h.mem.laid id o q
    refine ⟨l, hl, k.sz, k.pos, k.rows, k.cap, ?_⟩
    rcases k.mem with m | ⟨b, c, e, lo, hi, m1, m2, m3⟩
    · exact .inl m
    · exact .inr ⟨b, c, e, lo, hi, m1, hsame _ _ _ _ m2, m3⟩, h.mem.apart, fun b c q => by
    obtain ⟨e, fr, k⟩ := h.mem.imm b c q
    exact ⟨e, fr, hsame _ _ _ _ k⟩⟩
  i0 _ _ q := q
  i1 _ _ q := .inl q
  ext := Ext.refl _ _
  fresh := hM
  pins := hp
  mp m q := by rw [hmp] at q; cases q
theorem RB.cellsOf (h : RB E st a w ρ I) {id : Nat} {o : AObj} {l : Loc} {b : Nat} (ho : st.heap id = some o) (hl : ρ id = some l) (hb : l.blk = some b) : ∃ c e fr, w.heap[b]? = some (Obj.cells c e fr) := by
  obtain ⟨l', hl', k⟩ := h.mem.laid id o ho
  rw [hl] at hl'; cases hl'
  rcases k.mem with ⟨m, _⟩ | ⟨b', c, e, lo, hi, m1, m2, _⟩
  · rw [hb] at m; cases m
  · rw [hb] at m1; cases m1; exact ⟨c, e, (lo, hi), m2⟩
def pinned (PIN : List Nat) (H : List (Nat × AObj)) : List (Nat × AObj) := H.map fun q => (q.1, { q.2 with pin := PIN.contains q.1 })
theorem lk_pinned {PIN : List Nat} {id : Nat} : ∀ {H : List (Nat × AObj)}, lk (pinned PIN H) id = (lk H id).map fun o => { o with pin := PIN.contains id }
  | [] => rfl
  | (k, o) :: H => by
    have ih := lk_pinned (PIN := PIN) (id := id) (H := H)
    simp only [pinned, List.map_cons, lk] at ih ⊢
    split
    · rename_i e; subst e; rfl
    · exact ih
theorem knowsH_lk {s : St} {id : Nat} {o : AObj} : ∀ {H : List (Nat × AObj)}, KnowsH s H → lk H id = some o → s.heap id = some o
  | (k, o') :: H, hk, h => by
    simp only [lk] at h
    split at h
    · rename_i e; cases h; subst e; exact hk.1
    · exact knowsH_lk hk.2 h
def roundQ {α : Type} (PIN : List Nat) (H : List α → List (Nat × AObj)) (Inv : List α → Prop) (Stop : Exit → List α → Prop) (pre : List α) (x : α) (e : Exit) (s : St) : Prop :=
  (match e with
    | .normal => Inv (pre ++ [x])
    | .ret => Stop .ret (pre ++ [x])
    | .exit i => Stop (.exit i) (pre ++ [x])
    | _ => False) ∧ KnowsH s (pinned PIN (H (pre ++ [x])))
def jumpOf : Exit → Code
  | .ret => .ret
  | .exit i => .exit i
  | _ => .ret
theorem wp_range {α : Type} {enc : α → D} {xs : List α} {go : Operand} {p : Tmp} {assign body : Code} {QQ : Exit → Act → World → Prop} (n : Nat) (S : List (Nat × D)) (H : List α → List (Nat × AObj)) (PIN : List Nat) (Inv : List α → Prop) (Stop : Exit → List α → Prop) {gf : FuncId} {caps : List D}
    (hR : R E st a w) (hI0 : Inv []) (hE : E.dfs = []) (hle : (mkS n S (H [])).le st) (hS : (S.all fun q => q.2.all fun id => PIN.contains id) = true) (hP : ∀ pre, (PIN.all fun id => (lk (H pre) id).isSome) = true) (hU : ∀ pre, ((H pre).all fun q => !q.2.pin) = true)
    (hg : st.ev go = some (.fn (.func gf) 0 caps)) (hgf : FnOk P gf) (hcp : D.allL (fun _ => false) caps = true) (hit : IterC P gf caps enc xs) (henc : ∀ x, (enc x).all (fun _ => false) = true) (hpn : p < n)
    (hround : ∀ pre x, Inv pre → pre ++ [x] <+: xs → ∀ l E0, AWPI (some l) P E0 assign (fun e s => e = .normal ∧ s.mp = none ∧ ∀ E1, AWPI (some l) P E1 body (roundQ PIN H Inv Stop pre x) s) (mkS n ((p, enc x) :: S) (pinned PIN (H pre))))
    (hdone : ∀ E' a' w', Inv xs → After E E' → R E' (mkS n S (H xs)) a' w' → QQ .normal a' w')
    (hstop : ∀ e pre E' a' w', (e = .ret ∨ ∃ i, e = .exit i) → After E E' → pre <+: xs → Stop e pre → R E' (mkS n S (H pre)) a' w' → QQ e a' w') :
    (Code.rangeFunc go #[p] assign body).wpIn (wr none) 0 P QQ a w := by
  obtain ⟨ρ, I, h0⟩ := hR
  have hn : a.tmps.size = n := by rw [h0.size, ← hle.n]; rfl
  obtain ⟨lbs, hgo, hlb⟩ : ∃ lbs : List Value, a.eval go = .func (.func gf) #[] lbs.toArray ∧ RepL I noLocs caps lbs := by
    have hv := h0.ev hg
    generalize a.eval go = v at hv
    cases hv with
    | fn _ _ _ _ fs vs hn hl hh =>
      have e1 : fs = #[] := Array.eq_empty_of_size_eq_zero (by omega)
      subst e1
      refine ⟨vs.toList, by simp, ?_⟩
      have key : ∀ (cs : List D) (xs : List Value), cs.length = xs.length → D.allL (fun _ => false) cs = true → (∀ (i : Nat) (d : D) (x : Value), cs[i]? = some d → xs[i]? = some x → Rep I ρ d x) → RepL I noLocs cs xs := by
        intro cs
        induction cs with
        | nil => intro xs hx _ _; cases xs with
          | nil => trivial
          | cons _ _ => simp at hx
        | cons c cs ih => intro xs hx ha hh; cases xs with
          | nil => simp at hx
          | cons x xs =>
            simp only [D.allL, Bool.and_eq_true] at ha
            exact ⟨(hh 0 c x (by simp) (by simp)).pure ha.1, ih xs (by simpa using hx) ha.2 fun i d y h1 h2 => hh (i + 1) d y (by simpa using h1) (by simpa using h2)⟩
      exact key _ _ (by simpa using hl) hcp fun i d x h1 h2 => hh i d x h1 (by simpa using h2)
  refine wpIn_rangeFunc ?_
  intro fn hfn
  rw [show (wr none).round = none from rfl]
  obtain ⟨dm, hdm⟩ : ∃ dm, dm = w.heap.size := ⟨_, rfl⟩
  obtain ⟨l, hldef⟩ : ∃ l, l = w.heap.size + 1 := ⟨_, rfl⟩
  obtain ⟨rec, hrec⟩ : ∃ rec : LoopState → Option Code → Loop, rec = fun st pe => { state := st, pending := pe, fn, tmps := a.tmps, params := #[p], assign, body, defers := dm } := ⟨_, rfl⟩
  obtain ⟨W1, hW1⟩ : ∃ W1, (w.alloc (.deferred (some []))).alloc (.loop (rec .ready none)) = W1 := ⟨_, rfl⟩
  have hL1 : W1.heap[l]? = some (.loop (rec .ready none)) := by
    rw [← hW1, hldef]; have := World.alloc_heap_new (w.alloc (.deferred (some []))) (.loop (rec .ready none)); rwa [World.size_alloc] at this
  have hK1 : W1.heap[dm]? = some (.deferred (some [])) := by
    rw [← hW1, hdm]; exact (RowKit.Below.heap_alloc _ _ _ (by simp)).trans (World.alloc_heap_new w _)
  have hx1 : Ext (fun _ => False) w W1 := by
    rw [← hW1]
    refine ⟨rfl, rfl, rfl, by simp; omega, fun k hk _ => ?_⟩
    exact (RowKit.Below.heap_alloc _ _ _ (by simp; omega)).trans (RowKit.Below.heap_alloc _ _ _ hk)
  have hw0 : E.w0.heap.size ≤ w.heap.size := h0.ext.size
  -- what holds between two rounds
  let Ep : Ent := { E with pin := ρ }
  let T : List α → St := fun pre => mkS n S (pinned PIN (H pre))
  let Jr : Bool × List α → World → Imm → Prop := fun g W I' => W.heap[dm]? = some (.deferred (some [])) ∧ (∃ ρ', RB Ep (T g.2) a W ρ' I') ∧
    ((g.1 = true ∧ Inv g.2 ∧ W.heap[l]? = some (.loop (rec .ready none))) ∨ (g.1 = false ∧ ∃ e, (e = .ret ∨ ∃ i, e = .exit i) ∧ Stop e g.2 ∧ W.heap[l]? = some (.loop (rec .done (some (jumpOf e))))))
  have hJs : ∀ g, Stable (Jr g) := by
    rintro g w1 w2 I1 I2 ⟨j1, ⟨ρ', j2⟩, j3⟩ hx hi1 hi2 himm
    have hkeep : ∀ k (o : Obj), w1.heap[k]? = some o → w2.heap[k]? = some o := fun k o hk => by rw [hx.block k (Array.getElem?_eq_some_iff.1 hk).1 (by simp)]; exact hk
    refine ⟨hkeep _ _ j1, ⟨ρ', j2.world hx hi1 hi2 himm⟩, ?_⟩
    rcases j3 with ⟨k1, k0, k2⟩ | ⟨k1, e, k2, k3, k4⟩
    · exact .inl ⟨k1, k0, hkeep _ _ k2⟩
    · exact .inr ⟨k1, e, k2, k3, hkeep _ _ k4⟩
  have hT0 : RB Ep (T []) a w ρ I := by
    have hw := h0.weaken hle.n hle.slots hle.heap hle.mp
    refine ⟨hw.size, hw.defers, hw.slots, ⟨fun id o ho => ?_, fun i1 o1 l1 i2 o2 l2 b q1 m1 e1 b1 q2 m2 e2 b2 => ?_, hw.mem.imm⟩, hw.i0, hw.i1, hw.ext, fun id o l b ho hwr hl hb => ?_, fun _ _ _ _ => rfl, fun m q => by cases q⟩
    · have ho' : lk (pinned PIN (H [])) id = some o := ho
      rw [lk_pinned] at ho'
      cases hq : lk (H []) id with
      | none => simp [hq] at ho'
      | some o0 =>
        rw [hq] at ho'
        simp only [Option.map_some, Option.some.injEq] at ho'
        obtain ⟨l, hl, hlaid⟩ := hw.mem.laid id o0 hq
        exact ⟨l, hl, by rw [← ho']; exact hlaid.pinAny _⟩
    · have q1' : lk (pinned PIN (H [])) i1 = some o1 := q1
      have q2' : lk (pinned PIN (H [])) i2 = some o2 := q2
      rw [lk_pinned] at q1' q2'
      cases z1 : lk (H []) i1 with
      | none => simp [z1] at q1'
      | some p1 =>
        cases z2 : lk (H []) i2 with
        | none => simp [z2] at q2'
        | some p2 =>
          rw [z1] at q1'; rw [z2] at q2'
          simp only [Option.map_some, Option.some.injEq] at q1' q2'
          exact hw.mem.apart i1 p1 l1 i2 p2 l2 b z1 (by rw [← q1'] at m1; exact m1) e1 b1 z2 (by rw [← q2'] at m2; exact m2) e2 b2
    · have ho' : lk (pinned PIN (H [])) id = some o := ho
      rw [lk_pinned] at ho'
      cases hq : lk (H []) id with
      | none => simp [hq] at ho'
      | some o0 =>
        rw [hq] at ho'
        simp only [Option.map_some, Option.some.injEq] at ho'
        exact hw.fresh id o0 l b hq (by rw [← ho'] at hwr; exact hwr) hl hb
  have himm1 : ImmOk I W1 := fun b c q => by
    obtain ⟨e, fr, k⟩ := h0.mem.imm b c q
    exact ⟨e, fr, by rw [hx1.block b (Array.getElem?_eq_some_iff.1 k).1 (by simp)]; exact k⟩
  have hJ0 : Jr (true, []) W1 I := ⟨hK1, ⟨ρ, hT0.world hx1 (fun _ _ q => q) (fun _ _ q => .inl q) himm1⟩, .inl ⟨rfl, hI0, hL1⟩⟩
  -- one round
  have hY : ∀ pre x, pre ++ [x] <+: xs → GYield P Jr l [enc x] (true, pre) (fun r g' => (r = .v (.bool true) ∧ g' = (true, pre ++ [x])) ∨ (r = .v (.bool false) ∧ g' = (false, pre ++ [x]))) := by
    rintro pre x hx W I' vs ⟨j1, ⟨ρ', j2⟩, j3⟩ himm hvs
    obtain ⟨hinv, hl⟩ : Inv pre ∧ W.heap[l]? = some (.loop (rec .ready none)) := by
      rcases j3 with ⟨_, k0, k2⟩ | ⟨k1, _⟩
      · exact ⟨k0, k2⟩
      · cases k1
    obtain ⟨v, rfl, hv⟩ : ∃ v, vs = [v] ∧ Rep I' noLocs (enc x) v := by
      match vs, hvs with
      | [v], h => exact ⟨v, rfl, h.1⟩
      | [], h => exact h.elim
      | _ :: _ :: _, h => exact h.2.elim
    have hy := run_yield (P := P) (args := #[v]) hl (by rw [hrec]; rfl)
    refine ⟨fn, a.tmps.setIfInBounds p v, assign, body, ?_, ?_⟩
    · rw [hrec] at hy
      refine hy.trans ?_
      have e : Array.zip #[p] #[v] = #[(p, v)] := by simp [Array.zip, Array.zipWith, Array.zipWithMAux]
      show Result.ok (Next.round l fn ((Array.zip #[p] #[v]).foldl _ a.tmps) assign body) W = _
      rw [e]
      rfl
    refine roundIn_of_wpIn (F := wr none) trivial ?_
    have hlW : l < W.heap.size := (Array.getElem?_eq_some_iff.1 hl).1
    have hdW : dm < W.heap.size := (Array.getElem?_eq_some_iff.1 j1).1
    let M0 : Nat → Prop := fun b => (E.M b ∨ E.w0.heap.size ≤ b) ∧ b ≠ l ∧ b ≠ dm
    have hM0l : ¬ M0 l := fun q => q.2.1 rfl
    have hM0d : ¬ M0 dm := fun q => q.2.2 rfl
    have hfr : ∀ b, E.w0.heap.size ≤ b → W.heap.size ≤ b → M0 b := fun b q1 q2 => ⟨.inr q1, by omega, by omega⟩
    let E0 : Ent := ⟨W, M0, I', ρ, []⟩
    have hsz0 : E.w0.heap.size ≤ W.heap.size := j2.ext.size
    have hR0 : RB E0 (mkS n ((p, enc x) :: S) (pinned PIN (H pre))) { tmps := a.tmps.setIfInBounds p v, defers := [] } W ρ' I' := by
      refine ⟨by show (a.tmps.setIfInBounds p v).size = n; simpa using hn, rfl, fun t d ht => ?_, j2.mem, fun _ _ q => q, fun _ _ q => .inl q, Ext.refl _ _, fun id o lo b ho hwr hlo hb => ?_, fun id o ho hp => j2.pins id o ho hp, fun m q => by cases q⟩
      · have ht' : lk ((p, enc x) :: S) t = some d := ht
        simp only [lk] at ht'
        split at ht'
        · rename_i e
          subst e
          cases ht'
          refine ⟨hpn, ?_⟩
          have e : (a.tmps.setIfInBounds t v).getD t undef = v := by
            rw [Array.getD_eq_getD_getElem?, Array.getElem?_setIfInBounds]; simp [hn, hpn]
          rw [e]
          exact hv.pure (henc x)
        · rename_i e
          obtain ⟨k1, k2⟩ := j2.slots t d ht'
          refine ⟨k1, ?_⟩
          have e2 : (a.tmps.setIfInBounds p v).getD t undef = a.tmps.getD t undef := by
            rw [Array.getD_eq_getD_getElem?, Array.getD_eq_getD_getElem?, Array.getElem?_setIfInBounds_ne (fun z => e (by first | exact z | exact z.symm))]
          show Rep I' ρ' d ((a.tmps.setIfInBounds p v).getD t undef)
          rw [e2]
          exact k2
      · obtain ⟨c, e, fr, k⟩ := j2.cellsOf ho hlo hb
        refine .inl ⟨j2.fresh id o lo b ho hwr hlo hb, ?_, ?_⟩
        · rintro rfl; rw [hl] at k; cases k
        · rintro rfl; rw [j1] at k; cases k
    refine wpIn_mono (hround pre x hinv hx l E0 _ W ⟨ρ', I', hR0⟩) ?_
    rintro e a1 w1 ⟨s1, ⟨rfl, hmp1, hbody⟩, ρ1, I1, hr1⟩
    have hl1 : w1.heap[l]? = some (.loop (rec .ready none)) := by rw [hr1.ext.block l hlW hM0l]; exact hl
    have hd1 : w1.heap[dm]? = some (.deferred (some [])) := by rw [hr1.ext.block dm hdW hM0d]; exact j1
    refine ⟨_, run_beginRound hl1 (by rw [hrec]), ?_⟩
    have hsz1 : W.heap.size ≤ w1.heap.size := hr1.ext.size
    obtain ⟨w2, hw2⟩ : ∃ w2, w2 = w1.putObj l (.loop { rec .ready none with state := .busy }) := ⟨_, rfl⟩
    rw [← hw2]
    have hl2 : w2.heap[l]? = some (.loop { rec .ready none with state := .busy }) := by rw [hw2]; exact World.putObj_heap_same (by omega)
    have hd2 : w2.heap[dm]? = some (.deferred (some [])) := by rw [hw2]; exact (World.putObj_heap_other (by omega)).trans hd1
    have hsz2 : w2.heap.size = w1.heap.size := by rw [hw2]; simp
    have hr2 : RB ⟨w2, M0, I1, ρ, []⟩ s1 a1 w2 ρ1 I1 := hr1.rebase (fun b c e fr q => by
        rw [hw2, World.putObj_heap_other]
        · exact q
        · rintro rfl; rw [hl1] at q; cases q) hmp1 rfl hr1.defers (fun id o lo b ho hwr hlo hb => .inl (by
          rcases hr1.fresh id o lo b ho hwr hlo hb with q | q
          · exact q
          · exact hfr b (Nat.le_trans hsz0 q) q)) (fun id o ho hp => hr1.pins id o ho hp)
    refine wpIn_mono (hbody ⟨w2, M0, I1, ρ, []⟩ _ w2 ⟨ρ1, I1, hr2⟩) ?_
    rintro e a3 W3 ⟨s3, hq, ρ3, I3, hr3⟩
    have hsz3 : w2.heap.size ≤ W3.heap.size := hr3.ext.size
    have hl3 : W3.heap[l]? = some (.loop { rec .ready none with state := .busy }) := by rw [hr3.ext.block l (by show l < w2.heap.size; omega) hM0l]; exact hl2
    have hd3 : W3.heap[dm]? = some (.deferred (some [])) := by rw [hr3.ext.block dm (by show dm < w2.heap.size; omega) hM0d]; exact hd2
    -- behind the round
    have hsub : ∀ b c, I' b = some c → I3 b = some c := fun b c q => hr3.i0 b c (hr1.i0 b c q)
    have fin : ∀ (jump : Option Code), KnowsH s3 (pinned PIN (H (pre ++ [x]))) → ∃ W4, (Instr.endRound l jump).run P W3 = .ok (.bool jump.isNone) W4 ∧ W4.heap[dm]? = some (.deferred (some [])) ∧ W4.heap[l]? = some (.loop (rec (if jump.isNone then .ready else .done) jump)) ∧ RB Ep (T (pre ++ [x])) a W4 ρ3 I3 := by
      intro jump hkn
      refine ⟨_, run_endRound jump hl3, (World.putObj_heap_other (by omega)).trans hd3, ?_, ?_⟩
      · rw [World.putObj_heap_same (by omega), hrec]
      have hT : ∀ id o, (T (pre ++ [x])).heap id = some o → s3.heap id = some o := fun id o ho => knowsH_lk hkn ho
      have hpinS : ∀ (g' : List α) (s : St), (∀ id o, (T g').heap id = some o → s.heap id = some o) → ∀ id, PIN.contains id = true → ∃ o, s.heap id = some o ∧ o.pin = true := by
        intro g' s hs id hid
        have := hP g'
        rw [List.all_eq_true] at this
        have h1 := this id (by simpa using hid)
        cases hq : lk (H g') id with
        | none => rw [hq] at h1; cases h1
        | some o0 =>
          refine ⟨{ o0 with pin := true }, hs id _ ?_, rfl⟩
          show lk (pinned PIN (H g')) id = _
          rw [lk_pinned, hq, hid]
          rfl
      refine ⟨by show a.tmps.size = n; exact hn, by show a.defers = E.dfs; exact j2.defers, fun t d ht => ?_, ⟨fun id o ho => ?_, fun i1 o1 l1 i2 o2 l2 b q1 m1 e1 b1 q2 m2 e2 b2 => ?_, fun b c q => ?_⟩, fun b c q => hsub b c (j2.i0 b c q), fun b c q => ?_, ?_, fun id o lo b ho hwr hlo hb => ?_, fun id o ho hp => hr3.pins id o (hT id o ho) hp, fun m q => by cases q⟩
      · have ht' : lk S t = some d := ht
        obtain ⟨k1, k2⟩ := j2.slots t d ht'
        refine ⟨k1, (k2.imm hsub).locs (p := fun id => PIN.contains id) (fun id hid => ?_) ?_⟩
        · obtain ⟨o1, z1, z2⟩ := hpinS pre (T pre) (fun _ _ q => q) id hid
          obtain ⟨o2, z3, z4⟩ := hpinS (pre ++ [x]) s3 hT id hid
          have y1 : ρ' id = ρ id := j2.pins id o1 z1 z2
          have y2 : ρ3 id = ρ id := hr3.pins id o2 z3 z4
          rw [y1, y2]
        · rw [List.all_eq_true] at hS
          exact hS (t, d) (lk_mem ht')
      · obtain ⟨lo, hlo, k⟩ := hr3.mem.laid id o (hT id o ho)
        refine ⟨lo, hlo, k.sz, k.pos, k.rows, k.cap, ?_⟩
        rcases k.mem with m | ⟨b, c, e, lo, hi, m1, m2, m3⟩
        · exact .inl m
        · refine .inr ⟨b, c, e, lo, hi, m1, ?_, m3⟩
          rw [World.putObj_heap_other]
          · exact m2
          · rintro rfl; rw [hl3] at m2; cases m2
      · exact hr3.mem.apart i1 o1 l1 i2 o2 l2 b (hT _ _ q1) m1 e1 b1 (hT _ _ q2) m2 e2 b2
      · obtain ⟨e, fr, k⟩ := hr3.mem.imm b c q
        refine ⟨e, fr, ?_⟩
        rw [World.putObj_heap_other]
        · exact k
        · rintro rfl; rw [hl3] at k; cases k
      · rcases hr3.i1 b c q with q | q | q
        · rcases hr1.i1 b c q with q | q | q
          · exact j2.i1 b c q
          · exact .inr q.1
          · exact .inr (.inr (Nat.le_trans hsz0 q))
        · exact .inr q.1
        · exact .inr (.inr (Nat.le_trans hsz0 (Nat.le_trans hsz1 (by rw [← hsz2]; exact q))))
      · have hle0 : ∀ k, k < E.w0.heap.size → ¬ E.M k → ¬ M0 k := fun k hk hm q => by
          rcases q.1 with z | z
          · exact hm z
          · omega
        have x1 : Ext E.M E.w0 w1 := j2.ext.trans hr1.ext (fun b q => q.1)
        have x2 : Ext E.M E.w0 w2 := by rw [hw2]; exact x1.putObj _ (.inr (by omega))
        have x3 : Ext E.M E.w0 W3 := x2.trans hr3.ext (fun b q => q.1)
        exact x3.putObj _ (.inr (by omega))
      · rcases hr3.fresh id o lo b (hT id o ho) hwr hlo hb with q | q
        · exact q.1
        · exact .inr (Nat.le_trans hsz0 (Nat.le_trans hsz1 (by rw [← hsz2]; exact q)))
    obtain ⟨hq1, hq2⟩ := hq
    cases e with
    | normal =>
      obtain ⟨W4, f1, f2, f3, f4⟩ := fin none hq2
      exact ⟨_, W4, f1, _, .v (.bool true), (true, pre ++ [x]), I3, rfl, .inl ⟨rfl, rfl⟩, .v _ _, hsub, f4.mem.imm, f2, ⟨ρ3, f4⟩, .inl ⟨rfl, hq1, f3⟩⟩
    | ret =>
      obtain ⟨W4, f1, f2, f3, f4⟩ := fin (some .ret) hq2
      exact ⟨_, W4, f1, _, .v (.bool false), (false, pre ++ [x]), I3, rfl, .inr ⟨rfl, rfl⟩, .v _ _, hsub, f4.mem.imm, f2, ⟨ρ3, f4⟩, .inr ⟨rfl, .ret, .inl rfl, hq1, f3⟩⟩
    | exit i =>
      obtain ⟨W4, f1, f2, f3, f4⟩ := fin (some (.exit i)) hq2
      exact ⟨_, W4, f1, _, .v (.bool false), (false, pre ++ [x]), I3, rfl, .inr ⟨rfl, rfl⟩, .v _ _, hsub, f4.mem.imm, f2, ⟨ρ3, f4⟩, .inr ⟨rfl, .exit i, .inr ⟨i, rfl⟩, hq1, f3⟩⟩
    | goto _ => exact hq1.elim
    | panic _ => exact hq1.elim
    | outgrown => exact hq1.elim
  have hcall := hit l Jr hJs hY W1 I (.func (.yield l) #[] #[] :: lbs) hJ0 himm1 ⟨.fn _ _ _ [] #[] #[] rfl rfl (by simp), hlb⟩
  refine ⟨l, [{ target := .collected dm, args := #[] }], W1, { target := .fn (.func gf) lbs.toArray, args := #[.func (.yield l) #[] #[]] }, W1, gf, (.func (.yield l) #[] #[] :: lbs).toArray, W1, ?_, ?_, fun _ _ => trivial, ?_, (fun q => by cases q), ?_⟩
  · rw [← hW1, hrec, hldef, hdm]; exact run_enterLoop_outer _ _ _ _ _
  · simp only [resolve, hgo]
    simp [go_sem]
  · show (callFunc gf (#[.func (.yield l) #[] #[]] ++ lbs.toArray)).run P W1 = _
    rw [run_callFunc hgf]
    congr 2
    apply Array.ext'
    simp
  refine callsIn_wr (hcall.mono fun e W2 ⟨v, r, g', I2, he, hg', hrep, hsub, himm, j1, ⟨ρ2, j2⟩, j3⟩ => ?_)
  subst he
  have hsz2 : E.w0.heap.size ≤ W2.heap.size := j2.ext.size
  have hlW : l < W2.heap.size := by
    rcases j3 with ⟨_, _, k⟩ | ⟨_, _, _, _, k⟩ <;> exact (Array.getElem?_eq_some_iff.1 k).1
  -- behind the loop
  have fin : ∀ (o : Obj) (pre : List α) (old : Loop), W2.heap[l]? = some (.loop old) → g'.2 = pre → ∃ E', After E E' ∧ R E' (mkS n S (H pre)) { a with defers := [{ target := .collected dm, args := #[] }] ++ a.defers } (W2.putObj l o) := by
    rintro o pre old hold rfl
    have hd4 : (W2.putObj l o).heap[dm]? = some (.deferred (some [])) := (World.putObj_heap_other (by omega)).trans j1
    have hsame : ∀ (b : Nat) c e fr, W2.heap[b]? = some (Obj.cells c e fr) → (W2.putObj l o).heap[b]? = some (Obj.cells c e fr) := fun b c e fr q => by
      rw [World.putObj_heap_other]
      · exact q
      · rintro rfl; rw [hold] at q; cases q
    have hrb := j2.rebase (w2 := W2.putObj l o) (M' := fun b => (E.M b ∨ E.w0.heap.size ≤ b) ∧ b ≠ dm) (pin' := ρ) (dfs' := [{ target := .collected dm, args := #[] }]) (a' := { a with defers := [{ target := .collected dm, args := #[] }] ++ a.defers }) hsame rfl rfl
      (by show [_] ++ a.defers = _; rw [j2.defers]; show [_] ++ E.dfs = _; rw [hE]; rfl)
      (fun id o lo b ho hwr hlo hb => by
        obtain ⟨c, e, fr, k⟩ := j2.cellsOf ho hlo hb
        refine .inl ⟨j2.fresh id o lo b ho hwr hlo hb, ?_⟩
        rintro rfl; rw [j1] at k; cases k) (fun id o ho hp => j2.pins id o ho hp)
    refine ⟨⟨W2.putObj l o, fun b => (E.M b ∨ E.w0.heap.size ≤ b) ∧ b ≠ dm, I2, E.pin, [{ target := .collected dm, args := #[] }]⟩, ⟨⟨dm, rfl, by omega, hd4, fun q => q.2 rfl⟩, ?_, fun b q => q.1, j2.i0, j2.i1, rfl⟩, ρ2, I2, ?_⟩
    · have x2 : Ext E.M E.w0 W2 := j2.ext
      exact x2.putObj _ (.inr (by omega))
    · -- the marks that objects bear go
      have hun : ∀ id o, lk (H g'.2) id = some o → (T g'.2).heap id = some { o with pin := PIN.contains id } := fun id o q => by
        show lk (pinned PIN (H g'.2)) id = _
        rw [lk_pinned, q]; rfl
      refine ⟨hrb.size, hrb.defers, hrb.slots, ⟨fun id o ho => ?_, fun i1 o1 l1 i2 o2 l2 b q1 m1 e1 b1 q2 m2 e2 b2 => ?_, hrb.mem.imm⟩, hrb.i0, hrb.i1, hrb.ext, fun id o lo b ho hwr hlo hb => ?_, fun id o ho hp => ?_, fun m q => by cases q⟩
      · obtain ⟨lo, hlo, k⟩ := hrb.mem.laid id _ (hun id o ho)
        exact ⟨lo, hlo, k.pinAny o.pin⟩
      · exact hrb.mem.apart i1 _ l1 i2 _ l2 b (hun i1 o1 q1) m1 e1 b1 (hun i2 o2 q2) m2 e2 b2
      · exact hrb.fresh id _ lo b (hun id o ho) hwr hlo hb
      · have := hU g'.2
        rw [List.all_eq_true] at this
        have := this (id, o) (lk_mem ho)
        simp [hp] at this
  rcases j3 with ⟨k1, k0, k2⟩ | ⟨k1, e, k2, k3, k4⟩
  · have hg2 : g'.2 = xs := by
      rcases hg' with q | ⟨pre, _, q⟩
      · rw [q]
      · rw [q] at k1; cases k1
    obtain ⟨E', q1, q2⟩ := fin (.loop { rec .ready none with state := .exhausted }) xs _ k2 hg2
    refine ⟨none, _, ?_, hdone E' _ _ (hg2 ▸ k0) q1 q2⟩
    have := run_endLoop (P := P) k2 (by rw [hrec]; simp)
    rw [hrec] at this ⊢
    exact this
  · obtain ⟨pre, hp1, hp2⟩ : ∃ pre, pre <+: xs ∧ g'.2 = pre := by
      rcases hg' with q | ⟨pre, q0, q⟩
      · rw [q] at k1; cases k1
      · exact ⟨pre, q0, by rw [q]⟩
    obtain ⟨E', q1, q2⟩ := fin (.loop { rec .done (some (jumpOf e)) with state := .exhausted }) pre _ k4 hp2
    refine ⟨some (jumpOf e), W2.putObj l (.loop { rec .done (some (jumpOf e)) with state := .exhausted }), ?_, ?_⟩
    · have := run_endLoop (P := P) k4 (by rw [hrec]; simp)
      rw [hrec] at this ⊢
      exact this
    · have hq := hstop e pre E' _ _ k2 q1 hp1 (hp2 ▸ k3) q2
      rcases k2 with rfl | ⟨i, rfl⟩
      · exact wpIn_ret hq
      · exact wpIn_exit hq
def Aft (E E' : Ent) : Prop := E' = E ∨ After E E'
def AWP2 (P : Program) (E : Ent) (c : Code) (Q : Exit → St → Prop) (st : St) : Prop :=
  ∀ a w, R E st a w → c.wp P (fun e a' w' => ∃ E' st', Aft E E' ∧ Q e st' ∧ R E' st' a' w') a w
section
variable {Q : Exit → St → Prop}
def then2 (P : Program) (E : Ent) (y : Code) (Q : Exit → St → Prop) : Exit → St → Prop
  | .normal, st => AWP2 P E y Q st
  | e, st => Q e st
theorem awp2_seqL {x y : Code} (h : AWP P E x (then2 P E y Q) st) : AWP2 P E (.seq x y) Q st := by
  intro a w hR
  refine wp_seq (wp_mono (h a w hR) fun e a' w' ⟨st', q, r⟩ => ?_)
  cases e with
  | normal => exact q a' w' r
  | _ => exact ⟨E, st', .inl rfl, q, r⟩
def thenE (P : Program) (y : Code) (Q : Exit → St → Prop) : Exit → St → Prop
  | .normal, st => ∀ E, AWP P E y Q st
  | e, st => Q e st
theorem awp2_seqR {x y : Code} (h : AWP2 P E x (thenE P y Q) st) : AWP2 P E (.seq x y) Q st := by
  intro a w hR
  refine wp_seq (wp_mono (h a w hR) fun e a' w' ⟨E', st', x, q, r⟩ => ?_)
  cases e with
  | normal => exact wp_mono (q E' a' w' r) fun e a' w' ⟨st'', q, r⟩ => ⟨E', st'', x, q, r⟩
  | _ => exact ⟨E', st', x, q, r⟩
theorem awp2_block {id : Nat} {c : Code} (h : AWP2 P E c (blockA id Q) st) : AWP2 P E (.block id c) Q st := by
  intro a w hR
  refine wp_block (wp_mono (h a w hR) fun e a' w' ⟨E', st', x, q, r⟩ => ?_)
  cases e with
  | exit id' =>
    simp only [blockA] at q
    simp only [Exit.inBlock]
    split at q
    · rename_i e; rw [if_pos e]; exact ⟨E', st', x, q, r⟩
    · rename_i e; rw [if_neg e]; exact ⟨E', st', x, q, r⟩
  | _ => exact ⟨E', st', x, q, r⟩
theorem awp2_range {α : Type} {enc : α → D} {xs : List α} {go : Operand} {p : Tmp} {assign body : Code} (n : Nat) (S : List (Nat × D)) (H : List α → List (Nat × AObj)) (PIN : List Nat) (Inv : List α → Prop) (Stop : Exit → List α → Prop) {gf : FuncId} {caps : List D}
    (hE : E.dfs = []) (hI0 : Inv []) (hle : (mkS n S (H [])).le st) (hS : (S.all fun q => q.2.all fun id => PIN.contains id) = true) (hP : ∀ pre, (PIN.all fun id => (lk (H pre) id).isSome) = true) (hU : ∀ pre, ((H pre).all fun q => !q.2.pin) = true)
    (hg : st.ev go = some (.fn (.func gf) 0 caps)) (hgf : FnOk P gf) (hcp : D.allL (fun _ => false) caps = true) (hit : IterC P gf caps enc xs) (henc : ∀ x, (enc x).all (fun _ => false) = true) (hpn : p < n)
    (hround : ∀ pre x, Inv pre → pre ++ [x] <+: xs → ∀ l E0, AWPI (some l) P E0 assign (fun e s => e = .normal ∧ s.mp = none ∧ ∀ E1, AWPI (some l) P E1 body (roundQ PIN H Inv Stop pre x) s) (mkS n ((p, enc x) :: S) (pinned PIN (H pre))))
    (hdone : Inv xs → Q .normal (mkS n S (H xs))) (hstop : ∀ e pre, (e = .ret ∨ ∃ i, e = .exit i) → pre <+: xs → Stop e pre → Q e (mkS n S (H pre))) :
    AWP2 P E (.rangeFunc go #[p] assign body) Q st := fun a w hR => (wpIn_wide (n := 0)).1 (wp_range n S H PIN Inv Stop hR hI0 hE hle hS hP hU hg hgf hcp hit henc hpn hround (fun E' a' w' hi x r => ⟨E', _, .inr x, hdone hi, r⟩)
      (fun e pre E' a' w' he x hp hs r => ⟨E', _, .inr x, hstop e pre he hp hs, r⟩))
theorem After.back {E E' : Ent} (x : After E E') (h : RB E' st a w ρ I) : ∃ w2, RB { E with dfs := [] } st { a with defers := [] } w2 ρ I ∧ ∃ m, a.defers = [{ target := .collected m, args := #[] }] ∧ (Instr.takeDeferred m).run P w = .ok [] w2 := by
  obtain ⟨m, m1, m2, m3, m4⟩ := x.mark
  have hm : w.heap[m]? = some (.deferred (some [])) := by rw [h.ext.block m (Array.getElem?_eq_some_iff.1 m3).1 m4]; exact m3
  have hsame : ∀ (b : Nat) c e fr, w.heap[b]? = some (Obj.cells c e fr) → (w.putObj m (.deferred none)).heap[b]? = some (Obj.cells c e fr) := fun b c e fr q => by
    rw [World.putObj_heap_other]
    · exact q
    · rintro rfl; rw [hm] at q; cases q
  have hxt : Ext E.M E.w0 w := x.ext.trans h.ext x.m
  refine ⟨w.putObj m (.deferred none), ⟨h.size, rfl, h.slots, ⟨fun id o q => ?_, h.mem.apart, fun b c q => ?_⟩, fun b c q => h.i0 b c (x.i0 b c q), fun b c q => ?_, hxt.putObj _ (.inr m2), fun id o l b ho hw hl hb => ?_, fun id o ho hp => by rw [h.pins id o ho hp, x.pin], fun mm q => ?_⟩, m, by rw [h.defers, m1], run_takeDeferred hm⟩
  · obtain ⟨l, hl, k⟩ := h.mem.laid id o q
    refine ⟨l, hl, k.sz, k.pos, k.rows, k.cap, ?_⟩
    rcases k.mem with z | ⟨b, c, e, lo, hi, z1, z2, z3⟩
    · exact .inl z
    · exact .inr ⟨b, c, e, lo, hi, z1, hsame _ _ _ _ z2, z3⟩
  · obtain ⟨e, fr, k⟩ := h.mem.imm b c q
    exact ⟨e, fr, hsame _ _ _ _ k⟩
  · rcases h.i1 b c q with z | z | z
    · exact x.i1 b c z
    · exact .inr (x.m b z)
    · exact .inr (.inr (Nat.le_trans x.ext.size z))
  · rcases h.fresh id o l b ho hw hl hb with z | z
    · exact x.m b z
    · exact .inr (Nat.le_trans x.ext.size z)
  · have k := h.mp mm q
    have hne : mm.b ≠ m := by
      rintro rfl
      obtain ⟨arr, clock, k1, _⟩ := k.here
      rw [hm] at k1; cases k1
    exact ⟨by
      rcases k.fresh with z | z
      · exact x.m _ z
      · exact .inr (Nat.le_trans x.ext.size z), by rw [World.putObj_heap_other hne]; exact k.here, k.keys⟩
theorem contract_of_awp2V (ht : TTok P tt) {f : FuncId} {fn : Func} {c : Code} {n : Nat} {rs : List ResultVar} {ds : List D} {r : D} {objs : List AObj} (hf : P.funcs[f]? = some fn) (hb : fn.body = some c) (hn : fn.ntmps = n) (hds : ds.length ≤ n)
    (hrs : fn.results = rs.toArray) (h : ∀ E, E.dfs = [] → AWP2 P E c (fun e s => ∃ gs, EndsV tt rs r objs gs e s) (startSt n ds)) : Contract P f ds r objs := by
  intro w I vs hI hvs
  refine (callsIn_wide (n := 0)).1 (callsIn_of_wp_marks hf hb trivial ?_)
  obtain ⟨v1, v2⟩ := RepL.get hvs
  let E : Ent := ⟨w, fun _ => False, I, noLocs, []⟩
  have hR : R E (startSt n ds) { tmps := vs.toArray ++ Array.replicate (fn.ntmps - vs.toArray.size) undef, defers := [] } w := by
    refine ⟨noLocs, I, ⟨by simp [startSt]; omega, rfl, fun t d hd => ?_, ⟨fun id o ho => by simp [startSt] at ho, fun i1 o1 l1 i2 o2 l2 b h1 => by simp [startSt] at h1, hI⟩, fun _ _ q => q, fun _ _ q => .inl q, Ext.refl _ _, fun id o l b ho => by simp [startSt] at ho, fun id o ho => by simp [startSt] at ho, fun m hm => by simp [startSt] at hm⟩⟩
    have hd' : ds[t]? = some d := hd
    have ht := (List.getElem?_eq_some_iff.1 hd').1
    refine ⟨by simp [startSt]; omega, ?_⟩
    have hx : vs[t]? = some (vs[t]'(by omega)) := List.getElem?_eq_getElem (by omega)
    have e : (vs.toArray ++ Array.replicate (fn.ntmps - vs.toArray.size) undef).getD t undef = vs[t]'(by omega) := by
      rw [Array.getD_eq_getD_getElem?, Array.getElem?_append_left (by simp; omega)]
      simp [hx]
    rw [e]
    exact v2 t d _ hd' hx
  refine (wpIn_wide (n := 0)).2 (wp_mono (h E rfl _ _ hR) fun e a' w' ⟨E', st', haft, ⟨gs, hend⟩, ρ, J, hrb'⟩ => ?_)
  obtain ⟨he, hlen, hnd, hrall, hoall, hres, hobjs⟩ := hend
  -- the world when the marks have been taken
  obtain ⟨w2, hrb, hlv⟩ : ∃ w2, RB E st' { a' with defers := [] } w2 ρ J ∧ (∀ RR : Ending → World → Prop, LeavesInM Fence.wide 0 P fn a'.tmps RR [] .returning w2 → LeavesInM Fence.wide 0 P fn a'.tmps RR a'.defers .returning w') := by
    rcases haft with rfl | x
    · have hd : a'.defers = [] := hrb'.defers
      refine ⟨w', ⟨hrb'.size, rfl, hrb'.slots, hrb'.mem, hrb'.i0, hrb'.i1, hrb'.ext, hrb'.fresh, hrb'.pins, hrb'.mp⟩, fun RR q => by rw [hd]; exact q⟩
    · obtain ⟨w2, q1, m, q2, q3⟩ := x.back (P := P) hrb'
      refine ⟨w2, q1, fun RR q => ?_⟩
      rw [q2]
      exact ⟨by simp, .inl ⟨m, w2, rfl, q3, q⟩⟩
  have key : ∃ v, (results fn a'.tmps).run P w2 = .ok v w2 ∧ ∃ v' ρ' I', Ending.returned v = .returned v' ∧ (∀ b c, I b = some c → I' b = some c) ∧ (∀ b c, I' b = some c → I b = some c ∨ w.heap.size ≤ b) ∧
      Rep I' ρ' r v' ∧ Mem I' ρ' (fun j => objs[j]?) w2 ∧ (∀ j l, ρ' j = some l → j < objs.length) ∧ Ext (fun _ => False) w w2 ∧ (∀ (j : Nat) o l b, objs[j]? = some o → o.wr = true → ρ' j = some l → l.blk = some b → w.heap.size ≤ b) := by
    obtain ⟨v0, hv0, hr0⟩ := hrb.resultV ht hrs hres
    refine ⟨v0, hv0, v0, fun j => if j < objs.length then ρ (gs.getD j 0) else none, J, rfl, hrb.i0, fun b c q => ?_, ?_, ⟨?_, ?_, hrb.mem.imm⟩, fun j l q => ?_, hrb.ext, ?_⟩
    · rcases hrb.i1 b c q with q | q | q
      · exact .inl q
      · exact q.elim
      · exact .inr q
    · have := Rep.unren r hr0
      exact this.locs (p := fun k => decide (k < objs.length)) (fun k hk => by simp only [decide_eq_true_eq] at hk; simp [hk]) hrall
    · intro j o ho
      have hj := (List.getElem?_eq_some_iff.1 ho).1
      obtain ⟨l, hl, hlaid⟩ := hrb.mem.laid _ _ (hobjs j o ho)
      exact ⟨l, by simp only [hj, if_true]; exact hl, laid_unren hlaid (hoall o (List.mem_of_getElem? ho))⟩
    · intro i1 o1 l1 i2 o2 l2 b h1 m1 e1 b1 h2 m2 e2 b2
      have hj1 := (List.getElem?_eq_some_iff.1 h1).1
      have hj2 := (List.getElem?_eq_some_iff.1 h2).1
      simp only [hj1, if_true] at e1
      simp only [hj2, if_true] at e2
      have := hrb.mem.apart _ _ _ _ _ _ _ (hobjs i1 o1 h1) (by rw [AObj.ren_wr]; exact m1) e1 b1 (hobjs i2 o2 h2) (by rw [AObj.ren_wr]; exact m2) e2 b2
      have q1 : gs.getD i1 0 = gs[i1]'(by omega) := by simp [List.getD, List.getElem?_eq_getElem (show i1 < gs.length by omega)]
      have q2 : gs.getD i2 0 = gs[i2]'(by omega) := by simp [List.getD, List.getElem?_eq_getElem (show i2 < gs.length by omega)]
      rw [q1, q2] at this
      have hp := List.pairwise_iff_getElem.1 hnd
      rcases Nat.lt_trichotomy i1 i2 with g | g | g
      · exact absurd this (hp i1 i2 (by omega) (by omega) g)
      · exact g
      · exact absurd this.symm (hp i2 i1 (by omega) (by omega) g)
    · have q' : (if j < objs.length then ρ (gs.getD j 0) else none) = some l := q
      split at q'
      · assumption
      · cases q'
    · intro j o l b ho hw hl hb
      have hj := (List.getElem?_eq_some_iff.1 ho).1
      simp only [hj, if_true] at hl
      rcases hrb.fresh _ _ _ _ (hobjs j o ho) (by rw [AObj.ren_wr]; exact hw) hl hb with q | q
      · exact q.elim
      · exact q
  rcases he with rfl | rfl <;> exact hlv _ key
end
end
section
variable {P : Program} {E : Ent} {st : St} {tt : TypeId → Option TI} {G : Type} {J : G → World → Imm → Prop} {Ib : Imm} {g : G} {Q : Exit → G → St → Prop}
theorem thenY_n (y : Code) (Q : Exit → G → St → Prop) (g : G) (st : St) : thenY P J Ib y Q .normal g st = YWP P J Ib y Q g st := rfl
theorem thenY_r (y : Code) (Q : Exit → G → St → Prop) (g : G) (st : St) : thenY P J Ib y Q .ret g st = Q .ret g st := rfl
theorem thenY_e (y : Code) (Q : Exit → G → St → Prop) (g : G) (st : St) (i : Nat) : thenY P J Ib y Q (.exit i) g st = Q (.exit i) g st := rfl
theorem blockY_n (id : Nat) (Q : Exit → G → St → Prop) (g : G) (st : St) : blockY id Q .normal g st = Q .normal g st := rfl
theorem blockY_r (id : Nat) (Q : Exit → G → St → Prop) (g : G) (st : St) : blockY id Q .ret g st = Q .ret g st := rfl
theorem blockY_e (id i : Nat) (Q : Exit → G → St → Prop) (g : G) (st : St) : blockY id Q (.exit i) g st = if i = id then Q .normal g st else Q (.exit i) g st := rfl
theorem loopY_n {X : Type} (T : X → St) (Gh : X → G) (Inv : X → Prop) (μ : X → Nat) (x : X) (Q : Exit → G → St → Prop) (g : G) (st : St) : loopY T Gh Inv μ x Q .normal g st = ∃ x', Inv x' ∧ μ x' < μ x ∧ Gh x' = g ∧ (T x').le st := rfl
theorem loopY_r {X : Type} (T : X → St) (Gh : X → G) (Inv : X → Prop) (μ : X → Nat) (x : X) (Q : Exit → G → St → Prop) (g : G) (st : St) : loopY T Gh Inv μ x Q .ret g st = Q .ret g st := rfl
theorem loopY_e {X : Type} (T : X → St) (Gh : X → G) (Inv : X → Prop) (μ : X → Nat) (x : X) (Q : Exit → G → St → Prop) (g : G) (st : St) (i : Nat) : loopY T Gh Inv μ x Q (.exit i) g st = Q (.exit i) g st := rfl
theorem ywp_reg (ht : TTok P tt) {rid : Nat} {ops : Array Oper} (h : aops P tt ops (fun st' => Q .normal g st') (rid * 1000 + 1000) ops.toList st) : YWP P J Ib (.region rid ops false) Q g st :=
  ywp_awp fun E => awp_reg ht h
theorem ywp_pure {c : Code} (t : Nat) {d d' : D} {ids : List Nat} {p : Prop} (hs : st.slots t = some d) (he : pur st.heap 4 d = some (ids, p, d')) (hp : p) (h : YWP P J Ib c Q g (st.pureSlot t ids d')) : YWP P J Ib c Q g st := by
  intro E hE a w hR
  obtain ⟨ρ, I, hrb⟩ := hR
  obtain ⟨ht, hx⟩ := hrb.slots t d hs
  obtain ⟨J, _, h', hd'⟩ := hrb.pur he hp hx
  refine h E hE a w ⟨ρ, J, ⟨h'.size, h'.defers, fun u e hu => ?_, h'.mem, h'.i0, h'.i1, h'.ext, h'.fresh, h'.pins, h'.mp⟩⟩
  simp only [St.pureSlot, upd] at hu
  split at hu
  · rename_i q
    cases hu
    subst q
    exact ⟨ht, hd'.mono (fun id l hl => by cases hl)⟩
  · exact h'.slots u e hu
theorem ops_split {ops : Array Oper} {k : Nat} {o : Oper} (ho : ops[k]? = some o) : ops.toList = ops.toList.take k ++ o :: ops.toList.drop (k + 1) ∧ (ops.toList.take k).length = k := by
  have hk : k < ops.size := (Array.getElem?_eq_some_iff.1 ho).1
  have e : ops.toList[k]? = some o := by simpa using ho
  have hk2 : k < ops.toList.length := by simpa using hk
  refine ⟨?_, by simp; omega⟩
  conv => lhs; rw [← List.take_append_drop k ops.toList]
  rw [List.drop_eq_getElem_cons hk2]
  congr 2
  rw [List.getElem?_eq_getElem hk2] at e
  exact Option.some.inj e
theorem ywp_regS (ht : TTok P tt) {rid : Nat} {ops : Array Oper} (k : Nat) (T1 : St) {o : Oper} {K2 : G → St → Prop} (ho : ops[k]? = some o) (hd : ops.toList.all noDef = true) (h1 : aops P tt ops (fun s => T1.le s) (rid * 1000 + 1000) (ops.toList.take k) st)
    (h2 : SpecI P J Ib ops o g T1 K2) (h3 : ∀ g' s', K2 g' s' → aops P tt ops (fun s'' => Q .normal g' s'') (rid * 1000 + 1000 + k + 1) (ops.toList.drop (k + 1)) s') : YWP P J Ib (.region rid ops false) Q g st := by
  obtain ⟨e1, e2⟩ := ops_split ho
  intro E hE a w hR
  obtain ⟨f1, f2, f3, f4⟩ := getElem_split e1
  rw [e2] at f1 f2 f3 f4
  rw [e1, List.all_append, List.all_cons, Bool.and_eq_true, Bool.and_eq_true] at hd
  obtain ⟨d1, d2, d3⟩ := hd
  refine (wpIn_wide (n := 0)).1 (wpIn_region ?_)
  rw [f1, ← wr_none]
  refine wpOpsIn_of_aops ht (fun s' a' w' hs hR' => ?_) _ _ _ st a w f2 d1 h1 hR
  have hR2 := hR'.le hs
  simp only [wpOpsIn, f3]
  rcases h2 with ⟨hw, hf, hk⟩ | ⟨hw, hk⟩
  · obtain ⟨ρ, I, hrb⟩ := hR2
    rw [hrb.want hw]
    simp only [Bool.false_eq_true, if_false]
    refine ⟨fun _ _ => trivial, ?_⟩
    have := wpOpsIn_of_aops ht (r := none) (ops := ops) (more := []) (Q := fun e a' w' => ∃ g' st' E', YE J Ib g' E' ∧ Q e g' st' ∧ R E' st' a' w') (fun st' a' w' q r => ⟨g, st', E, hE, q, r⟩) _ _ _ _ (a'.put o.dst undef) w' f4 d3 (h3 _ _ hk) ⟨ρ, I, hrb.put hf (.v _ _)⟩
    simpa using this
  · obtain ⟨ρ, I, hrb⟩ := hR2
    rw [hrb.want hw]
    simp only [if_true]
    refine hk E hE a' w' ⟨ρ, I, hrb⟩ _ _ fun g' s2 E' a2 w2 hE' hk2 hR3 => ?_
    have := wpOpsIn_of_aops ht (r := none) (ops := ops) (more := []) (Q := fun e a' w' => ∃ g' st' E', YE J Ib g' E' ∧ Q e g' st' ∧ R E' st' a' w') (fun st' a' w' q r => ⟨g', st', E', hE', q, r⟩) _ _ _ _ _ _ f4 d3 (h3 _ _ hk2) hR3
    simpa using this
theorem ywp_draw (ht : TTok P tt) {rid : Nat} {ops : Array Oper} (k : Nat) (T1 : St) (C : Ord) (L Ct Cg : List Nat) {o : Oper} {K2 : G → St → Prop} (ho : ops[k]? = some o) (hB : (schedB ops L Ct Cg && tailB ops k && preB (ops.extract 0 k) k && chkC (ops.extract 0 k) C) = true)
    (h1 : ∀ O : Array Oper, OpsAre O (ops.toList.take k) 0 → aopsD P tt O (fun s => T1.le s) (rid * 1000 + 1000) C st)
    (h2 : SpecO P J Ib ops o g T1 K2) (h3 : ∀ g' s', K2 g' s' → aops P tt ops (fun s'' => Q .normal g' s'') (rid * 1000 + 1000 + k + 1) (ops.toList.drop (k + 1)) s') : YWP P J Ib (.region rid ops true) Q g st := by
  simp only [Bool.and_eq_true] at hB
  obtain ⟨⟨⟨hS, hT⟩, hG⟩, hC⟩ := hB
  obtain ⟨hops, hlk⟩ := ops_split ho
  have e3 : (ops.extract 0 k).toList = ops.toList.take k := by simp
  intro E hE a w hR
  have hk : (ops.extract 0 k).size = k ∧ k < ops.size := by
    have := (Array.getElem?_eq_some_iff.1 ho).1
    simp; omega
  refine wp_region_draw fun t => ?_
  obtain ⟨s', r1, r2⟩ := aopsD_run (E := E) ht (h1 (ops.extract 0 k) (by rw [← e3]; exact opsAre_self _ _ 0 (by simp)))
  have hs := schedule_topo2 hS (P.follows .mixedOrders) t
  obtain ⟨l', e1, e2, e3⟩ := topo_cut hT (by omega) hs (fun j o e hj => by cases hj) (fun _ _ _ => rfl)
  rw [e1]
  simp only [chkC, Bool.and_eq_true, decide_eq_true_eq, List.all_eq_true, List.mem_range] at hC
  obtain ⟨⟨⟨c1, c2⟩, c3⟩, c4⟩ := hC
  have hag : ∀ i, i < (ops.extract 0 k).size → ops[i]? = (ops.extract 0 k)[i]? := fun i hi => by
    rw [Array.getElem?_extract]; simp; intro q; omega
  obtain ⟨f1, f2, f3, f4⟩ := getElem_split hops
  rw [hlk] at f3 f4
  have hlen : (ops.toList.drop (k + 1)).length = ops.size - (k + 1) := by simp
  have htail : List.range' k (ops.size - k) = k :: List.range' (k + 1) (ops.toList.drop (k + 1)).length := by
    rw [hlen, show ops.size - k = (ops.size - (k + 1)) + 1 by omega, List.range'_succ]
  refine wpOps_then (pre := ops.extract 0 k) (Q1 := fun e a' w' => e = .normal ∧ R E s' a' w') hag (fun i o j b ho hg => ?_) (fun a' w' ⟨_, hR'⟩ => ?_) (fun e a w hne q => absurd q.1 hne) l' a _ (fun i hi => by rw [hk.1]; exact e2 i hi) ?_
  · simp only [preB, List.all_eq_true] at hG
    have := hG o (Array.mem_toList_iff.2 (Array.mem_of_getElem? ho))
    rw [hg] at this
    simpa [hk.1] using this
  · rw [htail]
    simp only [wpOps, f3]
    have hR2 := hR'.le r2
    rcases h2 with ⟨hw, hf, hkk⟩ | ⟨hw, hkk⟩
    · obtain ⟨ρ, I, hrb⟩ := hR2
      rw [hrb.want hw]
      simp only [Bool.false_eq_true, if_false]
      have := wpOps_of_aopsM ht (ops := ops) (more := []) (Q := fun e a' w' => ∃ g' st' E', YE J Ib g' E' ∧ Q e g' st' ∧ R E' st' a' w') (fun st' a' w' q r => ⟨g, st', E, hE, q, r⟩) _ _ _ _ (a'.put o.dst undef) w' f4 (h3 _ _ hkk) ⟨ρ, I, hrb.put hf (.v _ _)⟩
      simpa using this
    · obtain ⟨ρ, I, hrb⟩ := hR2
      rw [hrb.want hw]
      simp only [if_true]
      refine .inl (hkk E hE a' w' ⟨ρ, I, hrb⟩ _ _ fun g' s2 E' a2 w2 hE' hk2 hR3 => ?_)
      have := wpOps_of_aopsM ht (ops := ops) (more := []) (Q := fun e a' w' => ∃ g' st' E', YE J Ib g' E' ∧ Q e g' st' ∧ R E' st' a' w') (fun st' a' w' q r => ⟨g', st', E', hE', q, r⟩) _ _ _ _ _ _ f4 (h3 _ _ hk2) hR3
      simpa using this
  · have e : (C.filter fun q => !((fun _ => false) q.1)) = C := List.filter_eq_self.2 (fun _ _ => rfl)
    refine draw_exec (ops := ops.extract 0 k) c1 (fun i hi => by simpa using c2 i hi) c3 (fun q hq => by simpa using c4 q hq) l' (fun _ => false) st s' e3 (fun j o e hj => by cases hj) (by rw [e]; exact r1) _ a _ ?_ (fun a' w' hR' => ⟨rfl, hR'⟩)
    obtain ⟨ρ, I, hrb⟩ := hR
    exact ⟨ρ, I, hrb.drew⟩
theorem knows_mem {s : St} {t : Nat} {d : D} : ∀ {l : List (Nat × D)}, Knows s l → (t, d) ∈ l → s.slots t = some d
  | (k, e) :: l, hk, h => by
    rcases List.mem_cons.1 h with q | q
    · cases q; exact hk.1
    · exact knows_mem hk.2 q
theorem bare_mk {s : St} {n : Nat} {sl : List (Nat × D)} (hn : n = s.n) (hk : Knows s sl) (hp : (sl.all fun q => q.2.all fun _ => false) = true) : Bare (mkS n sl []) s :=
  ⟨hn, fun t d h => ⟨knows_mem hk (lk_mem h), by rw [List.all_eq_true] at hp; exact hp (t, d) (lk_mem h)⟩, fun _ => rfl, rfl⟩
def joinY (T : St) (g0 : G) (Q : Exit → G → St → Prop) : Exit → G → St → Prop
  | .normal, g, st => g = g0 ∧ T.le st
  | e, g, st => Q e g st
theorem joinY_n (T : St) (g0 : G) (Q : Exit → G → St → Prop) (g : G) (st : St) : joinY T g0 Q .normal g st = (g = g0 ∧ T.le st) := rfl
theorem joinY_r (T : St) (g0 : G) (Q : Exit → G → St → Prop) (g : G) (st : St) : joinY T g0 Q .ret g st = Q .ret g st := rfl
theorem ywp_seqJ {x y : Code} (T : St) (g0 : G) (h1 : YWP P J Ib x (joinY T g0 Q) g st) (h2 : YWP P J Ib y Q g0 T) : YWP P J Ib (.seq x y) Q g st := by
  refine ywp_seq (ywp_mono h1 fun e g' s hq => ?_)
  cases e with
  | normal => obtain ⟨rfl, hl⟩ := hq; exact ywp_le h2 hl
  | _ => exact hq
end
section
variable {P : Program} {E : Ent} {st : St}
theorem awp2_le {c : Code} {Q : Exit → St → Prop} {st' : St} (h : AWP2 P E c Q st') (hl : st'.le st) : AWP2 P E c Q st := fun a w hR => h a w (hR.le hl)
theorem then2_n (y : Code) (Q : Exit → St → Prop) (st : St) : then2 P E y Q .normal st = AWP2 P E y Q st := rfl
theorem thenI_n (r : Option Nat) (y : Code) (Q : Exit → St → Prop) (st : St) : thenI r P E y Q .normal st = AWPI r P E y Q st := rfl
theorem awpI_reg {r : Option Nat} {tt : TypeId → Option TI} {Q : Exit → St → Prop} (ht : TTok P tt) {rid : Nat} {ops : Array Oper} (h : aops P tt ops (fun st' => Q .normal st') (rid * 1000 + 1000) ops.toList st) (hd : ops.toList.all noDef = true := by rfl) : AWPI r P E (.region rid ops false) Q st :=
  awpI_region ht _ hd h
theorem awp2_pure {c : Code} {Q : Exit → St → Prop} (t : Nat) {d d' : D} {ids : List Nat} {p : Prop} (hs : st.slots t = some d) (he : pur st.heap 4 d = some (ids, p, d')) (hp : p) (h : AWP2 P E c Q (st.pureSlot t ids d')) : AWP2 P E c Q st := by
  intro a w hR
  obtain ⟨ρ, I, hrb⟩ := hR
  obtain ⟨ht, hx⟩ := hrb.slots t d hs
  obtain ⟨J, _, h', hd'⟩ := hrb.pur he hp hx
  refine h a w ⟨ρ, J, ⟨h'.size, h'.defers, fun u e hu => ?_, h'.mem, h'.i0, h'.i1, h'.ext, h'.fresh, h'.pins, h'.mp⟩⟩
  simp only [St.pureSlot, upd] at hu
  split at hu
  · rename_i q
    cases hu
    subst q
    exact ⟨ht, hd'.mono (fun id l hl => by cases hl)⟩
  · exact h'.slots u e hu
theorem awp2_own_nilC {c : Code} {Q : Exit → St → Prop} (id r j nid sz : Nat) {o : AObj} {row : List D} (hsz : 0 < sz) (ho : (st.bind nid { sz := sz, rows := [] }).heap id = some o) (hr : o.rows[r]? = some row) (hj : row[j]? = some (.sl true [])) (hf : o.flat = false)
    (hc : AWP2 P E c Q (st.toOwnC id r j nid sz o row)) : AWP2 P E c Q st := by
  refine fun a w hR => hc a w ?_
  obtain ⟨ρ, I, hrb⟩ := hR
  have hl : LaidObj I ρ w { sz := sz, rows := [] } ⟨none, 0, 0, sz⟩ := ⟨rfl, hsz, by simp, by simp, .inl ⟨rfl, rfl⟩⟩
  have h' := hrb.adopt (id := nid) hl (fun b hb => by cases hb) (fun b hb => by cases hb)
  refine ⟨_, I, ⟨h'.size, h'.defers, h'.slots, ⟨fun k o1 hk => ?_, fun i1 o1 l1 i2 o2 l2 b h1 m1 e1 b1 h2 m2 e2 b2 => ?_, h'.mem.imm⟩, h'.i0, h'.i1, h'.ext, fun k o1 l b hk hw hl hb => ?_, fun k o1 hk hp => ?_, h'.mp⟩⟩
  · simp only [St.toOwnC, upd] at hk
    split at hk
    · rename_i e
      subst e
      simp only [Option.some.injEq] at hk
      subst hk
      obtain ⟨l, el, hl⟩ := h'.mem.laid k o ho
      refine ⟨l, el, hl.sz, hl.pos, fun row1 h1 => ?_, by simpa using hl.cap, ?_⟩
      · rcases List.mem_or_eq_of_mem_set h1 with q | q
        · exact hl.rows row1 q
        · subst q
          simpa using hl.rows row (List.mem_of_getElem? hr)
      · rcases hl.mem with g0 | ⟨b, cc, e, lo, hi, g1, g2, g3, g4, g5, g6, hone, g7⟩
        · exact .inl g0
        · refine .inr ⟨b, cc, e, lo, hi, g1, g2, g3, g4, g5, g6, hone, fun i jj row1 d x q1 q2 q3 => ?_⟩
          simp only [hf, Bool.false_eq_true, if_false] at g7 ⊢
          have hrl : r < o.rows.length := by
            rcases Nat.lt_or_ge r o.rows.length with q | q
            · exact q
            · rw [List.getElem?_eq_none q] at hr; cases hr
          have hjl : j < row.length := by
            rcases Nat.lt_or_ge j row.length with q | q
            · exact q
            · rw [List.getElem?_eq_none q] at hj; cases hj
          by_cases ei : r = i
          · subst ei
            rw [List.getElem?_set_self hrl] at q1
            simp only [Option.some.injEq] at q1
            subst q1
            by_cases ej : j = jj
            · subst ej
              rw [List.getElem?_set_self hjl] at q2
              simp only [Option.some.injEq] at q2
              subst q2
              exact rep_nilOwn (g7 r j row _ x hr hj q3) updL_eq
            · rw [List.getElem?_set_ne ej] at q2
              exact g7 r jj row d x hr q2 q3
          · rw [List.getElem?_set_ne ei] at q1
            exact g7 i jj row1 d x q1 q2 q3
    · exact h'.mem.laid k o1 hk
  · have key : ∀ k ox, (st.toOwnC id r j nid sz o row).heap k = some ox → ∃ oy, (st.bind nid { sz := sz, rows := [] }).heap k = some oy ∧ oy.wr = ox.wr := fun k ox hk => by
      simp only [St.toOwnC, upd] at hk
      split at hk
      · rename_i e; subst e; simp only [Option.some.injEq] at hk; subst hk; exact ⟨o, ho, rfl⟩
      · exact ⟨ox, hk, rfl⟩
    obtain ⟨y1, q1, r1⟩ := key _ _ h1
    obtain ⟨y2, q2, r2⟩ := key _ _ h2
    exact h'.mem.apart _ _ _ _ _ _ _ q1 (r1.trans m1) e1 b1 q2 (r2.trans m2) e2 b2
  · simp only [St.toOwnC, upd] at hk
    split at hk
    · rename_i e; subst e; simp only [Option.some.injEq] at hk; subst hk; exact h'.fresh _ _ _ _ ho hw hl hb
    · exact h'.fresh _ _ _ _ hk hw hl hb
  · simp only [St.toOwnC, upd] at hk
    split at hk
    · rename_i e; subst e; simp only [Option.some.injEq] at hk; subst hk; exact h'.pins _ _ ho hp
    · exact h'.pins _ _ hk hp
end
end Go.Ab
