import Derived.Test.YtglcnghfmdcdpaaAbE
import Derived.Lib.Bytes
import Derived.Test.YtglcnghfmdcdpaaAbD
set_option linter.unusedSimpArgs false
set_option linter.unusedVariables false
namespace Go.Proofs.Ytglcnghfmdcdpaa
open Go.Ab
abbrev u32 (x : BitVec 32) : D := .v (.int .u32 (x.toNat : Int))
abbrev u8 (x : UInt8) : D := .v (.int .u8 (x.toNat : Int))
abbrev i64 (x : Int) : D := .v (.int .i64 x)
abbrev bo (x : Bool) : D := .v (.bool x)
theorem i64_in {n : Int} (h1 : -9223372036854775808 ≤ n) (h2 : n ≤ 9223372036854775807) : IntKind.i64.wrap n = n := by
  rw [IntKind.wrap_i64]; omega
def bys (l : List UInt8) : List (List D) := l.map fun b => [u8 b]
theorem bys_map (l : List UInt8) : (bys l).map byteRow = l := by
  unfold bys
  rw [List.map_map]
  have : byteRow ∘ (fun b : UInt8 => [u8 b]) = id := by
    funext b
    simp [byteRow]
  rw [this, List.map_id]
theorem bys_str (l : List UInt8) : (∀ row ∈ bys l, ∃ n, row = [D.v (.int .u8 n)]) = True := by simp [bys]
theorem bs_eq (l m : List UInt8) : ((⟨l.toArray⟩ : ByteArray).toList == (⟨m.toArray⟩ : ByteArray).toList) = (l == m) := by
  rw [ByteArray.toList_eq, ByteArray.toList_eq]
def ints (l : List Int) : List (List D) := l.map fun z => [i64 z]
theorem ints_len (l : List Int) : (ints l).length = l.length := by simp [ints]
theorem ints_row (l : List Int) : (∀ row ∈ ints l, row.length = 1) = True := by simp [ints]
theorem ints_get {l : List Int} {i : Nat} (h : i < l.length) : (ints l).getD i [] = [i64 (l.getD i 0)] := by
  simp [ints, List.getD, List.getElem?_eq_getElem h]
theorem ints_ex (l : List Int) : (l = [] ∨ ∃ row, row ∈ ints l ∧ row.length = 1) = True := by
  cases l with
  | nil => simp
  | cons a m => simp [ints]
theorem ints_drop (l : List Int) (k : Nat) : (ints l).drop k = ints (l.drop k) := by simp [ints]
theorem ints_take (l : List Int) (k : Nat) : (ints l).take k = ints (l.take k) := by simp [ints]
theorem ints_nil_iff (l : List Int) : (ints l = []) = (l = []) := by simp [ints]
theorem ints_app (l m : List Int) : ints l ++ ints m = ints (l ++ m) := by simp [ints]
theorem ints_one (z : Int) : [[i64 z]] = ints [z] := rfl
theorem bys_len (l : List UInt8) : (bys l).length = l.length := by simp [bys]
theorem bys_nil_iff (l : List UInt8) : (bys l = []) = (l = []) := by simp [bys]
theorem bys_row (l : List UInt8) : (∀ row ∈ bys l, row.length = 1) = True := by simp [bys]
theorem bys_ex (l : List UInt8) : (l = [] ∨ ∃ row, row ∈ bys l ∧ row.length = 1) = True := by
  cases l with
  | nil => simp
  | cons a m => simp [bys]
theorem bys_drop (l : List UInt8) (k : Nat) : (bys l).drop k = bys (l.drop k) := by simp [bys]
theorem bys_take (l : List UInt8) (k : Nat) : (bys l).take k = bys (l.take k) := by simp [bys]
theorem bys_app (l m : List UInt8) : bys l ++ bys m = bys (l ++ m) := by simp [bys]
section
variable {P : Program} {E : Ent} {st : St} {Q : Exit → St → Prop}
theorem awp_id {c : Code} (h : AWP P E c Q st) : AWP P E c Q st := h
theorem id_call {f : FuncId} {args : List D} {pr : PurR (List D)} {nid : Nat} {K : St → D → Prop} (h : CallVC P f args pr st nid K) : CallVC P f args pr st nid K := h
theorem id_and {a b : Prop} (h : a ∧ b) : a ∧ b := h
theorem id_ex {α : Type} {p : α → Prop} (h : ∃ x, p x) : ∃ x, p x := h
theorem id_all {p : Bool → Prop} (h : ∀ x, p x) : ∀ x, p x := h
theorem id_nat {p : Nat → Prop} (h : ∀ x, p x) : ∀ x, p x := h
theorem id_le {T s : St} (h : T.le s) : T.le s := h
theorem awp_condM {c : Operand} {a b : Code} (h : match st.ev c with
    | some (.v (.bool true)) => AWP P E a Q st
    | some (.v (.bool false)) => AWP P E b Q st
    | _ => False) : AWP P E (.cond c a b) Q st := by
  split at h
  · rename_i hc
    exact awp_cond (t := true) hc (fun _ => h) (fun q => by cases q)
  · rename_i hc
    exact awp_cond (t := false) hc (fun q => by cases q) (fun _ => h)
  · cases h
end
theorem evD0 : type_of% (And.intro @aops_nil (And.intro @aops_cons (And.intro @stepR.eq_1 (And.intro @runR_go (And.intro @runR_call (And.intro @runR_nilc (And.intro @St.want.eq_1 (And.intro @exec1.eq_1 (And.intro @val.eq_def (And.intro @St.ev.eq_1 (And.intro @St.ev.eq_2 (And.intro @St.ev.eq_3 (And.intro @St.ev.eq_4 (And.intro @St.evL.eq_1 (And.intro @St.evL.eq_2 (And.intro @St.evO.eq_1 (And.intro @St.evO.eq_2 (And.intro @upd.eq_1 (And.intro @lk.eq_1 (And.intro @lk.eq_2 (And.intro @St.put.eq_1 (And.intro @St.put.eq_2 (And.intro @St.fits.eq_1 (And.intro @St.fits.eq_2 (And.intro @startSt.eq_1 (And.intro @ofV.eq_def (And.intro @ofAtom.eq_def (And.intro @thenA.eq_def (And.intro @loopA.eq_def (@blockA.eq_def)))))))))))))))))))))))))))))) := And.intro @aops_nil (And.intro @aops_cons (And.intro @stepR.eq_1 (And.intro @runR_go (And.intro @runR_call (And.intro @runR_nilc (And.intro @St.want.eq_1 (And.intro @exec1.eq_1 (And.intro @val.eq_def (And.intro @St.ev.eq_1 (And.intro @St.ev.eq_2 (And.intro @St.ev.eq_3 (And.intro @St.ev.eq_4 (And.intro @St.evL.eq_1 (And.intro @St.evL.eq_2 (And.intro @St.evO.eq_1 (And.intro @St.evO.eq_2 (And.intro @upd.eq_1 (And.intro @lk.eq_1 (And.intro @lk.eq_2 (And.intro @St.put.eq_1 (And.intro @St.put.eq_2 (And.intro @St.fits.eq_1 (And.intro @St.fits.eq_2 (And.intro @startSt.eq_1 (And.intro @ofV.eq_def (And.intro @ofAtom.eq_def (And.intro @thenA.eq_def (And.intro @loopA.eq_def (@blockA.eq_def)))))))))))))))))))))))))))))
theorem evD1 : type_of% (And.intro @dbin.eq_def (And.intro @sbin.eq_def (And.intro @sun.eq_def (And.intro @valConvert.eq_def (And.intro @valLen.eq_def (And.intro @isSliceT.eq_def (And.intro @Knows.eq_1 (And.intro @Knows.eq_2 (And.intro @KnowsH.eq_1 (And.intro @KnowsH.eq_2 (And.intro @St.callOf.eq_def (And.intro @St.nilCmp.eq_def (And.intro @aopsL_nil (And.intro @aopsL_cons (And.intro @stepL.eq_1 (And.intro @runL_some (And.intro @bnd.eq_def (And.intro @valSlice.eq_def (And.intro @valLoad.eq_1 (And.intro @valIndexAddr.eq_def (And.intro @valFieldAddr.eq_1 (And.intro @valField.eq_def (And.intro @valIndex.eq_def (And.intro @partD.eq_1 (And.intro @isAggT.eq_def (And.intro @St.rowOf.eq_def (And.intro @St.rowsOf.eq_def (And.intro @valExtract.eq_def (And.intro @valMin.eq_def (@valMax.eq_def)))))))))))))))))))))))))))))) := And.intro @dbin.eq_def (And.intro @sbin.eq_def (And.intro @sun.eq_def (And.intro @valConvert.eq_def (And.intro @valLen.eq_def (And.intro @isSliceT.eq_def (And.intro @Knows.eq_1 (And.intro @Knows.eq_2 (And.intro @KnowsH.eq_1 (And.intro @KnowsH.eq_2 (And.intro @St.callOf.eq_def (And.intro @St.nilCmp.eq_def (And.intro @aopsL_nil (And.intro @aopsL_cons (And.intro @stepL.eq_1 (And.intro @runL_some (And.intro @bnd.eq_def (And.intro @valSlice.eq_def (And.intro @valLoad.eq_1 (And.intro @valIndexAddr.eq_def (And.intro @valFieldAddr.eq_1 (And.intro @valField.eq_def (And.intro @valIndex.eq_def (And.intro @partD.eq_1 (And.intro @isAggT.eq_def (And.intro @St.rowOf.eq_def (And.intro @St.rowsOf.eq_def (And.intro @valExtract.eq_def (And.intro @valMin.eq_def (@valMax.eq_def)))))))))))))))))))))))))))))
theorem evD2 : type_of% (And.intro @hop.eq_def (And.intro @hopAlloc.eq_1 (And.intro @hopBox.eq_1 (And.intro @hopBuildSlice.eq_1 (And.intro @hopMakeSlice.eq_def (And.intro @hopAppend.eq_1 (And.intro @hopCopy.eq_1 (And.intro @hopStore.eq_def (And.intro @hopBytes.eq_def (And.intro @hopConv.eq_def (And.intro @hopNil.eq_def (And.intro @srcD.eq_def (And.intro @isIntT.eq_def (And.intro @St.bind.eq_1 (And.intro @killS.eq_1 (And.intro @killH.eq_1 (And.intro @zrow.eq_1 (And.intro @D.kill.eq_1 (And.intro @D.kill.eq_2 (And.intro @D.kill.eq_3 (And.intro @D.kill.eq_4 (And.intro @D.kill.eq_5 (And.intro @D.kill.eq_6 (And.intro @D.killL.eq_1 (And.intro @D.killL.eq_2 (And.intro @AObj.kill.eq_1 (And.intro @pur.eq_1 (And.intro @pur.eq_2 (And.intro @purB.eq_def (@purL.eq_1)))))))))))))))))))))))))))))) := And.intro @hop.eq_def (And.intro @hopAlloc.eq_1 (And.intro @hopBox.eq_1 (And.intro @hopBuildSlice.eq_1 (And.intro @hopMakeSlice.eq_def (And.intro @hopAppend.eq_1 (And.intro @hopCopy.eq_1 (And.intro @hopStore.eq_def (And.intro @hopBytes.eq_def (And.intro @hopConv.eq_def (And.intro @hopNil.eq_def (And.intro @srcD.eq_def (And.intro @isIntT.eq_def (And.intro @St.bind.eq_1 (And.intro @killS.eq_1 (And.intro @killH.eq_1 (And.intro @zrow.eq_1 (And.intro @D.kill.eq_1 (And.intro @D.kill.eq_2 (And.intro @D.kill.eq_3 (And.intro @D.kill.eq_4 (And.intro @D.kill.eq_5 (And.intro @D.kill.eq_6 (And.intro @D.killL.eq_1 (And.intro @D.killL.eq_2 (And.intro @AObj.kill.eq_1 (And.intro @pur.eq_1 (And.intro @pur.eq_2 (And.intro @purB.eq_def (@purL.eq_1)))))))))))))))))))))))))))))
theorem evD3 : type_of% (And.intro @purL.eq_2 (And.intro @purLL.eq_1 (And.intro @purLL.eq_2 (And.intro @St.freeze.eq_1 (And.intro @D.cells.eq_def (And.intro @Go.Value.oneCell'.eq_def (And.intro @fillD.eq_1 (And.intro @fillD.eq_2 (And.intro @placesL.eq_1 (And.intro @placesL.eq_2 (And.intro @valBuild.eq_1 (And.intro @fnOf.eq_def (And.intro @St.adoptL.eq_1 (And.intro @St.adoptL.eq_2 (And.intro @AObj.ren.eq_1 (And.intro @D.ren.eq_1 (And.intro @D.ren.eq_2 (And.intro @D.ren.eq_3 (And.intro @D.ren.eq_4 (And.intro @D.ren.eq_5 (And.intro @D.ren.eq_6 (And.intro @D.renL.eq_1 (And.intro @D.renL.eq_2 (And.intro @objsOk.eq_1 (And.intro @objsOk.eq_2 (And.intro @St.result.eq_def (And.intro @startM.eq_1 (And.intro @AObj.pinned.eq_1 (And.intro @AObj.bare.eq_1 (@pinAt.eq_1)))))))))))))))))))))))))))))) := And.intro @purL.eq_2 (And.intro @purLL.eq_1 (And.intro @purLL.eq_2 (And.intro @St.freeze.eq_1 (And.intro @D.cells.eq_def (And.intro @Go.Value.oneCell'.eq_def (And.intro @fillD.eq_1 (And.intro @fillD.eq_2 (And.intro @placesL.eq_1 (And.intro @placesL.eq_2 (And.intro @valBuild.eq_1 (And.intro @fnOf.eq_def (And.intro @St.adoptL.eq_1 (And.intro @St.adoptL.eq_2 (And.intro @AObj.ren.eq_1 (And.intro @D.ren.eq_1 (And.intro @D.ren.eq_2 (And.intro @D.ren.eq_3 (And.intro @D.ren.eq_4 (And.intro @D.ren.eq_5 (And.intro @D.ren.eq_6 (And.intro @D.renL.eq_1 (And.intro @D.renL.eq_2 (And.intro @objsOk.eq_1 (And.intro @objsOk.eq_2 (And.intro @St.result.eq_def (And.intro @startM.eq_1 (And.intro @AObj.pinned.eq_1 (And.intro @AObj.bare.eq_1 (@pinAt.eq_1)))))))))))))))))))))))))))))
theorem evD4 : type_of% (And.intro @St.callM.eq_1 (And.intro @killsS.eq_1 (And.intro @killsS.eq_2 (And.intro @killsH.eq_1 (And.intro @killsH.eq_2 (And.intro @adoptM.eq_1 (And.intro @adoptM.eq_2 (And.intro @adoptM.eq_3 (And.intro @struck.eq_1 (And.intro @struck.eq_2 (And.intro @struck.eq_3 (And.intro @sigM.eq_1 (And.intro @purM.eq_1 (And.intro @D.all.eq_1 (And.intro @D.all.eq_2 (And.intro @D.all.eq_3 (And.intro @D.all.eq_4 (And.intro @D.all.eq_5 (And.intro @D.all.eq_6 (And.intro @D.allL.eq_1 (And.intro @D.allL.eq_2 (And.intro @InsAt.eq_1 (And.intro @InsAt.eq_2 (And.intro @OutsAt.eq_1 (And.intro @OutsAt.eq_2 (And.intro @OutsAt.eq_3 (And.intro @convBytes.eq_1 (And.intro @aopsD_nil (And.intro @aopsD_look (@aopsD_eff)))))))))))))))))))))))))))))) := And.intro @St.callM.eq_1 (And.intro @killsS.eq_1 (And.intro @killsS.eq_2 (And.intro @killsH.eq_1 (And.intro @killsH.eq_2 (And.intro @adoptM.eq_1 (And.intro @adoptM.eq_2 (And.intro @adoptM.eq_3 (And.intro @struck.eq_1 (And.intro @struck.eq_2 (And.intro @struck.eq_3 (And.intro @sigM.eq_1 (And.intro @purM.eq_1 (And.intro @D.all.eq_1 (And.intro @D.all.eq_2 (And.intro @D.all.eq_3 (And.intro @D.all.eq_4 (And.intro @D.all.eq_5 (And.intro @D.all.eq_6 (And.intro @D.allL.eq_1 (And.intro @D.allL.eq_2 (And.intro @InsAt.eq_1 (And.intro @InsAt.eq_2 (And.intro @OutsAt.eq_1 (And.intro @OutsAt.eq_2 (And.intro @OutsAt.eq_3 (And.intro @convBytes.eq_1 (And.intro @aopsD_nil (And.intro @aopsD_look (@aopsD_eff)))))))))))))))))))))))))))))
theorem evD5 : type_of% (And.intro @dLook_some (And.intro @dEff_some (And.intro @stepE.eq_1 (And.intro @runE_go (And.intro @runE_call (And.intro @stabA_nil (And.intro @stabA_cons (And.intro @stab1_some (And.intro @slotIs.eq_1 (And.intro @slotIs.eq_2 (And.intro @callK.eq_1 (And.intro @callKD.eq_1 (And.intro @St.unpin.eq_1 (And.intro @St.resultV.eq_def (And.intro @St.res1.eq_1 (And.intro @St.res1.eq_2 (And.intro @St.resL.eq_1 (And.intro @St.resL.eq_2 (And.intro @ObjsAt.eq_1 (And.intro @ObjsAt.eq_2 (And.intro @St.swap.eq_1 (And.intro @swapN.eq_1 (And.intro @aggEq.eq_1 (And.intro @aggEq.eq_2 (And.intro @aggEq.eq_3 (And.intro @St.pureSlot.eq_1 (And.intro @joinA.eq_def (And.intro @aopsS_cons (And.intro @aopsS_nil (@St.unflat.eq_1)))))))))))))))))))))))))))))) := And.intro @dLook_some (And.intro @dEff_some (And.intro @stepE.eq_1 (And.intro @runE_go (And.intro @runE_call (And.intro @stabA_nil (And.intro @stabA_cons (And.intro @stab1_some (And.intro @slotIs.eq_1 (And.intro @slotIs.eq_2 (And.intro @callK.eq_1 (And.intro @callKD.eq_1 (And.intro @St.unpin.eq_1 (And.intro @St.resultV.eq_def (And.intro @St.res1.eq_1 (And.intro @St.res1.eq_2 (And.intro @St.resL.eq_1 (And.intro @St.resL.eq_2 (And.intro @ObjsAt.eq_1 (And.intro @ObjsAt.eq_2 (And.intro @St.swap.eq_1 (And.intro @swapN.eq_1 (And.intro @aggEq.eq_1 (And.intro @aggEq.eq_2 (And.intro @aggEq.eq_3 (And.intro @St.pureSlot.eq_1 (And.intro @joinA.eq_def (And.intro @aopsS_cons (And.intro @aopsS_nil (@St.unflat.eq_1)))))))))))))))))))))))))))))
theorem evD6 : type_of% (And.intro @St.pureObj.eq_1 (And.intro @St.toOwnC.eq_1 (And.intro @exec0.eq_1 (And.intro @mop.eq_def (And.intro @mopSet.eq_1 (And.intro @mopGet.eq_1 (And.intro @mopLen.eq_1 (And.intro @newMapOf.eq_def (And.intro @runR_newm (And.intro @mset.eq_1 (@mget.eq_1))))))))))) := And.intro @St.pureObj.eq_1 (And.intro @St.toOwnC.eq_1 (And.intro @exec0.eq_1 (And.intro @mop.eq_def (And.intro @mopSet.eq_1 (And.intro @mopGet.eq_1 (And.intro @mopLen.eq_1 (And.intro @newMapOf.eq_def (And.intro @runR_newm (And.intro @mset.eq_1 (@mget.eq_1))))))))))
theorem evT : type_of% (And.intro @mkS_slots (And.intro @mkS_heap (And.intro @mkS_n (And.intro @decide_true (And.intro @decide_false (And.intro @true_and (And.intro @and_true (And.intro @Option.map_some.{0,0} (And.intro @Option.map_none.{0,0} (And.intro @List.getElem?_cons_zero.{0} (And.intro @List.getElem?_cons_succ.{0} (And.intro @List.getElem?_nil.{0} (And.intro @Nat.succ_ne_zero (And.intro @Nat.zero_ne_one (And.intro @Nat.one_ne_zero (And.intro @Bool.false_eq_true (And.intro @Int.toNat_natCast (And.intro @not_false_eq_true (And.intro @not_true_eq_false (And.intro @fillRows_cons (And.intro @fillRows_nil (And.intro @atoms_nil (And.intro @atoms_cons (And.intro @atom_v (And.intro @atom_sl (And.intro @atom_ref (And.intro @atom_own (And.intro @atom_ptr (And.intro @atom_fn (And.intro @good_agg (And.intro @good_v (And.intro @good_sl (And.intro @good_ref (And.intro @good_own (And.intro @good_ptr (And.intro @good_fn (And.intro @List.map_nil.{0,0} (And.intro @List.map_cons.{0,0} (And.intro @List.length_nil.{0} (And.intro @List.length_cons.{0} (And.intro @List.zip_nil_left.{0,0} (And.intro @List.zip_nil_right.{0,0} (And.intro @List.zip_cons_cons.{0,0} (And.intro @List.contains_nil.{0} (And.intro @List.contains_cons.{0} (And.intro @Bool.or_false (And.intro @Bool.false_or (And.intro @Bool.or_true (And.intro @Bool.true_or (And.intro @List.length_map.{0,0} (And.intro @List.nil_append.{0} (And.intro @List.cons_append.{0} (And.intro @List.take_zero.{0} (And.intro @List.drop_zero.{0} (And.intro @List.take_nil.{0} (And.intro @List.drop_nil.{0} (And.intro @Nat.zero_add (And.intro @Nat.add_zero (And.intro @Nat.sub_zero (And.intro @List.append_nil.{0} (And.intro @List.getD_cons_zero.{0} (And.intro @List.getD_cons_succ.{0} (And.intro @Nat.zero_mul (And.intro @List.not_mem_nil.{0} (And.intro @or_true (And.intro @true_or (And.intro @false_or (And.intro @or_false (And.intro @and_self (And.intro @List.take_succ_cons.{0} (And.intro @List.drop_succ_cons.{0} (And.intro @List.length_replicate.{0} (And.intro @ints_len (And.intro @ints_row (And.intro @ints_drop (And.intro @ints_take (And.intro @ints_nil_iff (And.intro @ints_app (And.intro @bys_len (And.intro @bys_row (And.intro @bys_drop (And.intro @bys_take (And.intro @bys_app (And.intro @List.getElem?_toArray.{0} (And.intro @Option.bind_some.{0,0} (And.intro @Bool.true_beq (And.intro @Bool.false_beq (And.intro @Bool.not_true (And.intro @Bool.not_false (And.intro @arr0_isEmpty.{0} (And.intro @arr1_isEmpty.{0} (And.intro @ints_ex (And.intro @Bool.and_true (And.intro @Bool.and_self (And.intro @Bool.and_false (And.intro @Bool.false_and (And.intro @Bool.true_and (And.intro @bys_nil_iff (And.intro @List.append_eq_nil_iff.{0} (And.intro @Int.natCast_nonneg (And.intro @Nat.mul_one (And.intro @bys_ex (And.intro @Option.isNone_some.{0} (And.intro @Option.isNone_none.{0} (And.intro @Option.isSome_some.{0} (And.intro @List.take_take.{0} (And.intro @Nat.min_self (And.intro @Nat.le_refl (And.intro @bys_map (And.intro @bys_str (And.intro @bs_eq (And.intro @beq_self_eq_true.{0} (And.intro @keyD_int (And.intro @keyD_str (And.intro @keyD_pair (And.intro @mkSM_slots (And.intro @mkSM_heap (And.intro @mkSM_n (@mkSM_mp))))))))))))))))))))))))))))))))))))))))))))))))))))))))))))))))))))))))))))))))))))))))))))))))))))))))))))))))))))))) := And.intro @mkS_slots (And.intro @mkS_heap (And.intro @mkS_n (And.intro @decide_true (And.intro @decide_false (And.intro @true_and (And.intro @and_true (And.intro @Option.map_some.{0,0} (And.intro @Option.map_none.{0,0} (And.intro @List.getElem?_cons_zero.{0} (And.intro @List.getElem?_cons_succ.{0} (And.intro @List.getElem?_nil.{0} (And.intro @Nat.succ_ne_zero (And.intro @Nat.zero_ne_one (And.intro @Nat.one_ne_zero (And.intro @Bool.false_eq_true (And.intro @Int.toNat_natCast (And.intro @not_false_eq_true (And.intro @not_true_eq_false (And.intro @fillRows_cons (And.intro @fillRows_nil (And.intro @atoms_nil (And.intro @atoms_cons (And.intro @atom_v (And.intro @atom_sl (And.intro @atom_ref (And.intro @atom_own (And.intro @atom_ptr (And.intro @atom_fn (And.intro @good_agg (And.intro @good_v (And.intro @good_sl (And.intro @good_ref (And.intro @good_own (And.intro @good_ptr (And.intro @good_fn (And.intro @List.map_nil.{0,0} (And.intro @List.map_cons.{0,0} (And.intro @List.length_nil.{0} (And.intro @List.length_cons.{0} (And.intro @List.zip_nil_left.{0,0} (And.intro @List.zip_nil_right.{0,0} (And.intro @List.zip_cons_cons.{0,0} (And.intro @List.contains_nil.{0} (And.intro @List.contains_cons.{0} (And.intro @Bool.or_false (And.intro @Bool.false_or (And.intro @Bool.or_true (And.intro @Bool.true_or (And.intro @List.length_map.{0,0} (And.intro @List.nil_append.{0} (And.intro @List.cons_append.{0} (And.intro @List.take_zero.{0} (And.intro @List.drop_zero.{0} (And.intro @List.take_nil.{0} (And.intro @List.drop_nil.{0} (And.intro @Nat.zero_add (And.intro @Nat.add_zero (And.intro @Nat.sub_zero (And.intro @List.append_nil.{0} (And.intro @List.getD_cons_zero.{0} (And.intro @List.getD_cons_succ.{0} (And.intro @Nat.zero_mul (And.intro @List.not_mem_nil.{0} (And.intro @or_true (And.intro @true_or (And.intro @false_or (And.intro @or_false (And.intro @and_self (And.intro @List.take_succ_cons.{0} (And.intro @List.drop_succ_cons.{0} (And.intro @List.length_replicate.{0} (And.intro @ints_len (And.intro @ints_row (And.intro @ints_drop (And.intro @ints_take (And.intro @ints_nil_iff (And.intro @ints_app (And.intro @bys_len (And.intro @bys_row (And.intro @bys_drop (And.intro @bys_take (And.intro @bys_app (And.intro @List.getElem?_toArray.{0} (And.intro @Option.bind_some.{0,0} (And.intro @Bool.true_beq (And.intro @Bool.false_beq (And.intro @Bool.not_true (And.intro @Bool.not_false (And.intro @arr0_isEmpty.{0} (And.intro @arr1_isEmpty.{0} (And.intro @ints_ex (And.intro @Bool.and_true (And.intro @Bool.and_self (And.intro @Bool.and_false (And.intro @Bool.false_and (And.intro @Bool.true_and (And.intro @bys_nil_iff (And.intro @List.append_eq_nil_iff.{0} (And.intro @Int.natCast_nonneg (And.intro @Nat.mul_one (And.intro @bys_ex (And.intro @Option.isNone_some.{0} (And.intro @Option.isNone_none.{0} (And.intro @Option.isSome_some.{0} (And.intro @List.take_take.{0} (And.intro @Nat.min_self (And.intro @Nat.le_refl (And.intro @bys_map (And.intro @bys_str (And.intro @bs_eq (And.intro @beq_self_eq_true.{0} (And.intro @keyD_int (And.intro @keyD_str (And.intro @keyD_pair (And.intro @mkSM_slots (And.intro @mkSM_heap (And.intro @mkSM_n (@mkSM_mp))))))))))))))))))))))))))))))))))))))))))))))))))))))))))))))))))))))))))))))))))))))))))))))))))))))))))))))))))))))
theorem evA : type_of% (And.intro evD0 (And.intro evD1 (And.intro evD2 (And.intro evD3 (And.intro evD4 (And.intro evD5 (And.intro evD6 (evT)))))))) := And.intro evD0 (And.intro evD1 (And.intro evD2 (And.intro evD3 (And.intro evD4 (And.intro evD5 (And.intro evD6 (evT)))))))
theorem evB : type_of% (And.intro evA (And.intro @if_false.{1} (And.intro @if_true.{1} (And.intro @if_false.{0} (And.intro @if_true.{0} (And.intro @ne_eq.{1} (And.intro @false_implies (And.intro @implies_true.{0} (And.intro @implies_true.{1} (And.intro @List.set.eq_1.{0} (And.intro @List.set.eq_2.{0} (And.intro @List.set.eq_3.{0} (And.intro @List.replicate.eq_1.{0} @List.replicate.eq_2.{0}))))))))))))) := And.intro evA (And.intro @if_false.{1} (And.intro @if_true.{1} (And.intro @if_false.{0} (And.intro @if_true.{0} (And.intro @ne_eq.{1} (And.intro @false_implies (And.intro @implies_true.{0} (And.intro @implies_true.{1} (And.intro @List.set.eq_1.{0} (And.intro @List.set.eq_2.{0} (And.intro @List.set.eq_3.{0} (And.intro @List.replicate.eq_1.{0} @List.replicate.eq_2.{0}))))))))))))
theorem evX {P : Prop} (h : P := by simp (maxSteps := 4000000) only [↓reduceIte, Nat.reduceLT, Nat.reduceEqDiff, reduceCtorEq, Nat.reduceAdd, Nat.reduceMul, Int.reduceLE, Int.reduceLT, Int.reduceToNat, Nat.reduceLeDiff, Nat.reduceSub, Int.reduceEq, Nat.reduceBEq, evB]) : P := h
theorem sdX {p : Prop} (k : p := by (repeat' with_reducible apply And.intro) <;> (first | omega | with_reducible trivial | with_reducible assumption)) : p := k
theorem law_walk {P : Program} {f : FuncId} {ds : List D} {W : World} {vs : List Value} (h : Contract P f ds (.v (.bool true)) []) (hv : RepL (immOf W) noLocs ds vs) :
    Calls P f vs.toArray W fun e w' => e = .returned (.bool true) ∧ RowKit.Below W.heap.size W w' := by
  refine (h W (immOf W) vs (immOk_of W) hv).mono fun e w' ⟨v, ρ', I', he, _, _, hr, _, _, hx, _⟩ => ?_
  have := rep_v_inv hr
  subst this
  exact ⟨he, hx.below⟩
section
variable {P : Program}
theorem opens_i64 {t : TypeId} (h : P.underlying t = some (.int .i64)) : Opens P t (fun n : Int => [i64 n]) (fun n => -9223372036854775808 ≤ n ∧ n ≤ 9223372036854775807) :=
  opens_map (opens_int h) fun n hn => ⟨n, by simp [Lit.wf, IntKind.min, IntKind.max, IntKind.signed, IntKind.bits] at hn; omega, rfl⟩
theorem opens_ints {t e : TypeId} (ht : P.underlying t = some (.slice e)) (he : P.underlying e = some (.int .i64)) (hc : P.cellsOf e = 1) : Opens P t (fun l : List Int => [.sl false (ints l)]) (fun l => l.length ≤ 9223372036854775807 ∧ ∀ n ∈ l, -9223372036854775808 ≤ n ∧ n ≤ 9223372036854775807) :=
  opens_map (opens_slice ht (opens_i64 he) (fun _ => hc.symm) (by omega)) fun l hl => ⟨l, hl, rfl⟩
end
section
variable {P : Program}
theorem opens_cell {t : TypeId} {α : Type} {enc : α → D} {ok : α → Prop} (h : Opens P t (fun a => [enc a]) ok) {H : Type} {encH : TypeId × Value → H} {w : World} {fuel : Nat} {cs : List Value} {off : Nat} {y : DataW H × List MemPlace}
    (hl : off < cs.length) (hx : DataW.trod encH P w 0 (fun _ => true) true fuel t ((cs.drop off).take 1) = some y) : ∃ a, ok a ∧ ∃ v, cs[off]? = some v ∧ Rep (immOf w) noLocs (enc a) v ∧ v.oneCell' = true := by
  obtain ⟨a, g1, g2, g3⟩ := h H encH w fuel _ _ hx
  have hv : cs[off]? = some (cs[off]'hl) := List.getElem?_eq_getElem hl
  have h2 : ((cs.drop off).take 1)[0]? = some (cs[off]'hl) := by
    rw [List.getElem?_take, if_pos (by decide), List.getElem?_drop]
    exact hv
  have := g3 0 (enc a) _ rfl h2
  exact ⟨a, g1, _, hv, this.1, this.2⟩
theorem opens_arr {t e : TypeId} {n : Nat} {α : Type} {enc : α → D} {ok : α → Prop} (ht : P.underlying t = some (.array n e)) (hc : P.cellsOf e = 1) (hct : P.cellsOf t = n) (he : Opens P e (fun a => [enc a]) ok) :
    Opens P t (fun l : List α => l.map enc) (fun l => l.length = n ∧ ∀ a ∈ l, ok a) := by
  intro H encH w fuel cs x hx
  obtain ⟨xs, m, rfl, rfl, hl, hlen, h⟩ := DataW.trod_array ht hx
  rw [hct] at hl
  have key : ∀ i, i < n → ∃ a, ok a ∧ ∃ v, cs[i]? = some v ∧ Rep (immOf w) noLocs (enc a) v ∧ v.oneCell' = true := by
    intro i hi
    have h1 := h i hi
    rw [hc, Nat.mul_one, List.getElem?_eq_getElem (by omega)] at h1
    exact opens_cell he (by omega) h1
  obtain ⟨l, hll, hlp⟩ := choose_list key
  refine ⟨l, ⟨hll, fun a ha => ?_⟩, by simp; omega, fun i d v q1 q2 => ?_⟩
  · obtain ⟨i, hi⟩ := List.getElem?_of_mem ha
    exact (hlp i a hi).1
  · rw [List.getElem?_map] at q1
    cases hq : l[i]? with
    | none => simp [hq] at q1
    | some a =>
      simp [hq] at q1
      subst q1
      obtain ⟨_, v', hv', r⟩ := hlp i a hq
      rw [hv'] at q2; cases q2
      exact r
theorem opens_arr2i {t e : TypeId} (ht : P.underlying t = some (.array 2 e)) (hc : P.cellsOf e = 1) (hct : P.cellsOf t = 2) (he : P.underlying e = some (.int .i64)) :
    Opens P t (fun x : Int × Int => [i64 x.1, i64 x.2]) (fun x => (-9223372036854775808 ≤ x.1 ∧ x.1 ≤ 9223372036854775807) ∧ (-9223372036854775808 ≤ x.2 ∧ x.2 ≤ 9223372036854775807)) :=
  opens_map (opens_arr ht hc hct (opens_i64 he)) fun l hl => by
    obtain ⟨h1, h2⟩ := hl
    match l, h1 with
    | [a, b], _ => exact ⟨(a, b), ⟨h2 a (by simp), h2 b (by simp)⟩, rfl⟩
theorem opens_arr3i {t e : TypeId} (ht : P.underlying t = some (.array 3 e)) (hc : P.cellsOf e = 1) (hct : P.cellsOf t = 3) (he : P.underlying e = some (.int .i64)) :
    Opens P t (fun x : Int × Int × Int => [i64 x.1, i64 x.2.1, i64 x.2.2]) (fun x => (-9223372036854775808 ≤ x.1 ∧ x.1 ≤ 9223372036854775807) ∧ (-9223372036854775808 ≤ x.2.1 ∧ x.2.1 ≤ 9223372036854775807) ∧ (-9223372036854775808 ≤ x.2.2 ∧ x.2.2 ≤ 9223372036854775807)) :=
  opens_map (opens_arr ht hc hct (opens_i64 he)) fun l hl => by
    obtain ⟨h1, h2⟩ := hl
    match l, h1 with
    | [a, b, c], _ => exact ⟨(a, b, c), ⟨h2 a (by simp), h2 b (by simp), h2 c (by simp)⟩, rfl⟩
end
section
variable {P : Program}
end
end Go.Proofs.Ytglcnghfmdcdpaa
