import Derived.Test.YtbhjmioegdgpnaaAbE
import Derived.Lib.Bytes
import Derived.Test.YtbhjmioegdgpnaaAbD
set_option linter.unusedSimpArgs false
set_option linter.unusedVariables false
namespace Go.Proofs.Ytbhjmioegdgpnaa
open Go.Ab
abbrev u32 (x : BitVec 32) : D := .v (.int .u32 (x.toNat : Int))
abbrev u8 (x : UInt8) : D := .v (.int .u8 (x.toNat : Int))
abbrev i64 (x : Int) : D := .v (.int .i64 x)
abbrev bo (x : Bool) : D := .v (.bool x)
theorem i64_in {n : Int} (h1 : -9223372036854775808 ≤ n) (h2 : n ≤ 9223372036854775807) : IntKind.i64.wrap n = n := by
  rw [IntKind.wrap_i64]; omega
def bys (l : List UInt8) : List (List D) := l.map fun b => [u8 b]
theorem bys_map (l : List UInt8) : (bys l).map byteRow = l := by
  unfold bys
  rw [List.map_map]
  have : byteRow ∘ (fun b : UInt8 => [u8 b]) = id := by
    funext b
    simp [byteRow]
  rw [this, List.map_id]
theorem bys_str (l : List UInt8) : (∀ row ∈ bys l, ∃ n, row = [D.v (.int .u8 n)]) = True := by simp [bys]
theorem bs_eq (l m : List UInt8) : ((⟨l.toArray⟩ : ByteArray).toList == (⟨m.toArray⟩ : ByteArray).toList) = (l == m) := by
  rw [ByteArray.toList_eq, ByteArray.toList_eq]
def ints (l : List Int) : List (List D) := l.map fun z => [i64 z]
theorem ints_len (l : List Int) : (ints l).length = l.length := by simp [ints]
theorem ints_row (l : List Int) : (∀ row ∈ ints l, row.length = 1) = True := by simp [ints]
theorem ints_get {l : List Int} {i : Nat} (h : i < l.length) : (ints l).getD i [] = [i64 (l.getD i 0)] := by
  simp [ints, List.getD, List.getElem?_eq_getElem h]
theorem ints_ex (l : List Int) : (l = [] ∨ ∃ row, row ∈ ints l ∧ row.length = 1) = True := by
  cases l with
  | nil => simp
  | cons a m => simp [ints]
theorem ints_drop (l : List Int) (k : Nat) : (ints l).drop k = ints (l.drop k) := by simp [ints]
theorem ints_take (l : List Int) (k : Nat) : (ints l).take k = ints (l.take k) := by simp [ints]
theorem ints_nil_iff (l : List Int) : (ints l = []) = (l = []) := by simp [ints]
theorem ints_app (l m : List Int) : ints l ++ ints m = ints (l ++ m) := by simp [ints]
theorem ints_one (z : Int) : [[i64 z]] = ints [z] := rfl
theorem bys_len (l : List UInt8) : (bys l).length = l.length := by simp [bys]
theorem bys_nil_iff (l : List UInt8) : (bys l = []) = (l = []) := by simp [bys]
theorem bys_row (l : List UInt8) : (∀ row ∈ bys l, row.length = 1) = True := by simp [bys]
theorem bys_ex (l : List UInt8) : (l = [] ∨ ∃ row, row ∈ bys l ∧ row.length = 1) = True := by
  cases l with
  | nil => simp
  | cons a m => simp [bys]
theorem bys_drop (l : List UInt8) (k : Nat) : (bys l).drop k = bys (l.drop k) := by simp [bys]
theorem bys_take (l : List UInt8) (k : Nat) : (bys l).take k = bys (l.take k) := by simp [bys]
theorem bys_app (l m : List UInt8) : bys l ++ bys m = bys (l ++ m) := by simp [bys]
section
variable {P : Program} {E : Ent} {st : St} {Q : Exit → St → Prop}
theorem awp_id {c : Code} (h : AWP P E c Q st) : AWP P E c Q st := h
theorem id_call {f : FuncId} {args : List D} {pr : PurR (List D)} {nid : Nat} {K : St → D → Prop} (h : CallVC P f args pr st nid K) : CallVC P f args pr st nid K := h
theorem id_and {a b : Prop} (h : a ∧ b) : a ∧ b := h
theorem id_ex {α : Type} {p : α → Prop} (h : ∃ x, p x) : ∃ x, p x := h
theorem id_all {p : Bool → Prop} (h : ∀ x, p x) : ∀ x, p x := h
theorem id_nat {p : Nat → Prop} (h : ∀ x, p x) : ∀ x, p x := h
theorem id_le {T s : St} (h : T.le s) : T.le s := h
theorem awp_condM {c : Operand} {a b : Code} (h : match st.ev c with
    | some (.v (.bool true)) => AWP P E a Q st
    | some (.v (.bool false)) => AWP P E b Q st
    | _ => False) : AWP P E (.cond c a b) Q st := by
  split at h
  · rename_i hc
    exact awp_cond (t := true) hc (fun _ => h) (fun q => by cases q)
  · rename_i hc
    exact awp_cond (t := false) hc (fun q => by cases q) (fun _ => h)
  · cases h
end
theorem evD0 : type_of% (And.intro @aops_nil (And.intro @aops_cons (And.intro @stepR.eq_1 (And.intro @runR_go (And.intro @runR_call (And.intro @runR_nilc (And.intro @St.want.eq_1 (And.intro @exec1.eq_1 (And.intro @val.eq_def (And.intro @St.ev.eq_1 (And.intro @St.ev.eq_2 (And.intro @St.ev.eq_3 (And.intro @St.ev.eq_4 (And.intro @St.evL.eq_1 (And.intro @St.evL.eq_2 (And.intro @St.evO.eq_1 (And.intro @St.evO.eq_2 (And.intro @upd.eq_1 (And.intro @lk.eq_1 (And.intro @lk.eq_2 (And.intro @St.put.eq_1 (And.intro @St.put.eq_2 (And.intro @St.fits.eq_1 (And.intro @St.fits.eq_2 (And.intro @startSt.eq_1 (And.intro @ofV.eq_def (And.intro @ofAtom.eq_def (And.intro @thenA.eq_def (And.intro @loopA.eq_def (@blockA.eq_def)))))))))))))))))))))))))))))) := And.intro @aops_nil (And.intro @aops_cons (And.intro @stepR.eq_1 (And.intro @runR_go (And.intro @runR_call (And.intro @runR_nilc (And.intro @St.want.eq_1 (And.intro @exec1.eq_1 (And.intro @val.eq_def (And.intro @St.ev.eq_1 (And.intro @St.ev.eq_2 (And.intro @St.ev.eq_3 (And.intro @St.ev.eq_4 (And.intro @St.evL.eq_1 (And.intro @St.evL.eq_2 (And.intro @St.evO.eq_1 (And.intro @St.evO.eq_2 (And.intro @upd.eq_1 (And.intro @lk.eq_1 (And.intro @lk.eq_2 (And.intro @St.put.eq_1 (And.intro @St.put.eq_2 (And.intro @St.fits.eq_1 (And.intro @St.fits.eq_2 (And.intro @startSt.eq_1 (And.intro @ofV.eq_def (And.intro @ofAtom.eq_def (And.intro @thenA.eq_def (And.intro @loopA.eq_def (@blockA.eq_def)))))))))))))))))))))))))))))
theorem evD1 : type_of% (And.intro @dbin.eq_def (And.intro @sbin.eq_def (And.intro @sun.eq_def (And.intro @valConvert.eq_def (And.intro @valLen.eq_def (And.intro @isSliceT.eq_def (And.intro @Knows.eq_1 (And.intro @Knows.eq_2 (And.intro @KnowsH.eq_1 (And.intro @KnowsH.eq_2 (And.intro @St.callOf.eq_def (And.intro @St.nilCmp.eq_def (And.intro @aopsL_nil (And.intro @aopsL_cons (And.intro @stepL.eq_1 (And.intro @runL_some (And.intro @bnd.eq_def (And.intro @valSlice.eq_def (And.intro @valLoad.eq_1 (And.intro @valIndexAddr.eq_def (And.intro @valFieldAddr.eq_1 (And.intro @valField.eq_def (And.intro @valIndex.eq_def (And.intro @partD.eq_1 (And.intro @isAggT.eq_def (And.intro @St.rowOf.eq_def (And.intro @St.rowsOf.eq_def (And.intro @valExtract.eq_def (And.intro @valMin.eq_def (@valMax.eq_def)))))))))))))))))))))))))))))) := And.intro @dbin.eq_def (And.intro @sbin.eq_def (And.intro @sun.eq_def (And.intro @valConvert.eq_def (And.intro @valLen.eq_def (And.intro @isSliceT.eq_def (And.intro @Knows.eq_1 (And.intro @Knows.eq_2 (And.intro @KnowsH.eq_1 (And.intro @KnowsH.eq_2 (And.intro @St.callOf.eq_def (And.intro @St.nilCmp.eq_def (And.intro @aopsL_nil (And.intro @aopsL_cons (And.intro @stepL.eq_1 (And.intro @runL_some (And.intro @bnd.eq_def (And.intro @valSlice.eq_def (And.intro @valLoad.eq_1 (And.intro @valIndexAddr.eq_def (And.intro @valFieldAddr.eq_1 (And.intro @valField.eq_def (And.intro @valIndex.eq_def (And.intro @partD.eq_1 (And.intro @isAggT.eq_def (And.intro @St.rowOf.eq_def (And.intro @St.rowsOf.eq_def (And.intro @valExtract.eq_def (And.intro @valMin.eq_def (@valMax.eq_def)))))))))))))))))))))))))))))
theorem evD2 : type_of% (And.intro @hop.eq_def (And.intro @hopAlloc.eq_1 (And.intro @hopBox.eq_1 (And.intro @hopBuildSlice.eq_1 (And.intro @hopMakeSlice.eq_def (And.intro @hopAppend.eq_1 (And.intro @hopCopy.eq_1 (And.intro @hopStore.eq_def (And.intro @hopBytes.eq_def (And.intro @hopConv.eq_def (And.intro @hopNil.eq_def (And.intro @srcD.eq_def (And.intro @isIntT.eq_def (And.intro @St.bind.eq_1 (And.intro @killS.eq_1 (And.intro @killH.eq_1 (And.intro @zrow.eq_1 (And.intro @D.kill.eq_1 (And.intro @D.kill.eq_2 (And.intro @D.kill.eq_3 (And.intro @D.kill.eq_4 (And.intro @D.kill.eq_5 (And.intro @D.kill.eq_6 (And.intro @D.killL.eq_1 (And.intro @D.killL.eq_2 (And.intro @AObj.kill.eq_1 (And.intro @pur.eq_1 (And.intro @pur.eq_2 (And.intro @purB.eq_def (@purL.eq_1)))))))))))))))))))))))))))))) := And.intro @hop.eq_def (And.intro @hopAlloc.eq_1 (And.intro @hopBox.eq_1 (And.intro @hopBuildSlice.eq_1 (And.intro @hopMakeSlice.eq_def (And.intro @hopAppend.eq_1 (And.intro @hopCopy.eq_1 (And.intro @hopStore.eq_def (And.intro @hopBytes.eq_def (And.intro @hopConv.eq_def (And.intro @hopNil.eq_def (And.intro @srcD.eq_def (And.intro @isIntT.eq_def (And.intro @St.bind.eq_1 (And.intro @killS.eq_1 (And.intro @killH.eq_1 (And.intro @zrow.eq_1 (And.intro @D.kill.eq_1 (And.intro @D.kill.eq_2 (And.intro @D.kill.eq_3 (And.intro @D.kill.eq_4 (And.intro @D.kill.eq_5 (And.intro @D.kill.eq_6 (And.intro @D.killL.eq_1 (And.intro @D.killL.eq_2 (And.intro @AObj.kill.eq_1 (And.intro @pur.eq_1 (And.intro @pur.eq_2 (And.intro @purB.eq_def (@purL.eq_1)))))))))))))))))))))))))))))
theorem evD3 : type_of% (And.intro @purL.eq_2 (And.intro @purLL.eq_1 (And.intro @purLL.eq_2 (And.intro @St.freeze.eq_1 (And.intro @D.cells.eq_def (And.intro @Go.Value.oneCell'.eq_def (And.intro @fillD.eq_1 (And.intro @fillD.eq_2 (And.intro @placesL.eq_1 (And.intro @placesL.eq_2 (And.intro @valBuild.eq_1 (And.intro @fnOf.eq_def (And.intro @St.adoptL.eq_1 (And.intro @St.adoptL.eq_2 (And.intro @AObj.ren.eq_1 (And.intro @D.ren.eq_1 (And.intro @D.ren.eq_2 (And.intro @D.ren.eq_3 (And.intro @D.ren.eq_4 (And.intro @D.ren.eq_5 (And.intro @D.ren.eq_6 (And.intro @D.renL.eq_1 (And.intro @D.renL.eq_2 (And.intro @objsOk.eq_1 (And.intro @objsOk.eq_2 (And.intro @St.result.eq_def (And.intro @startM.eq_1 (And.intro @AObj.pinned.eq_1 (And.intro @AObj.bare.eq_1 (@pinAt.eq_1)))))))))))))))))))))))))))))) := And.intro @purL.eq_2 (And.intro @purLL.eq_1 (And.intro @purLL.eq_2 (And.intro @St.freeze.eq_1 (And.intro @D.cells.eq_def (And.intro @Go.Value.oneCell'.eq_def (And.intro @fillD.eq_1 (And.intro @fillD.eq_2 (And.intro @placesL.eq_1 (And.intro @placesL.eq_2 (And.intro @valBuild.eq_1 (And.intro @fnOf.eq_def (And.intro @St.adoptL.eq_1 (And.intro @St.adoptL.eq_2 (And.intro @AObj.ren.eq_1 (And.intro @D.ren.eq_1 (And.intro @D.ren.eq_2 (And.intro @D.ren.eq_3 (And.intro @D.ren.eq_4 (And.intro @D.ren.eq_5 (And.intro @D.ren.eq_6 (And.intro @D.renL.eq_1 (And.intro @D.renL.eq_2 (And.intro @objsOk.eq_1 (And.intro @objsOk.eq_2 (And.intro @St.result.eq_def (And.intro @startM.eq_1 (And.intro @AObj.pinned.eq_1 (And.intro @AObj.bare.eq_1 (@pinAt.eq_1)))))))))))))))))))))))))))))
theorem evD4 : type_of% (And.intro @St.callM.eq_1 (And.intro @killsS.eq_1 (And.intro @killsS.eq_2 (And.intro @killsH.eq_1 (And.intro @killsH.eq_2 (And.intro @adoptM.eq_1 (And.intro @adoptM.eq_2 (And.intro @adoptM.eq_3 (And.intro @struck.eq_1 (And.intro @struck.eq_2 (And.intro @struck.eq_3 (And.intro @sigM.eq_1 (And.intro @purM.eq_1 (And.intro @D.all.eq_1 (And.intro @D.all.eq_2 (And.intro @D.all.eq_3 (And.intro @D.all.eq_4 (And.intro @D.all.eq_5 (And.intro @D.all.eq_6 (And.intro @D.allL.eq_1 (And.intro @D.allL.eq_2 (And.intro @InsAt.eq_1 (And.intro @InsAt.eq_2 (And.intro @OutsAt.eq_1 (And.intro @OutsAt.eq_2 (And.intro @OutsAt.eq_3 (And.intro @convBytes.eq_1 (And.intro @aopsD_nil (And.intro @aopsD_look (@aopsD_eff)))))))))))))))))))))))))))))) := And.intro @St.callM.eq_1 (And.intro @killsS.eq_1 (And.intro @killsS.eq_2 (And.intro @killsH.eq_1 (And.intro @killsH.eq_2 (And.intro @adoptM.eq_1 (And.intro @adoptM.eq_2 (And.intro @adoptM.eq_3 (And.intro @struck.eq_1 (And.intro @struck.eq_2 (And.intro @struck.eq_3 (And.intro @sigM.eq_1 (And.intro @purM.eq_1 (And.intro @D.all.eq_1 (And.intro @D.all.eq_2 (And.intro @D.all.eq_3 (And.intro @D.all.eq_4 (And.intro @D.all.eq_5 (And.intro @D.all.eq_6 (And.intro @D.allL.eq_1 (And.intro @D.allL.eq_2 (And.intro @InsAt.eq_1 (And.intro @InsAt.eq_2 (And.intro @OutsAt.eq_1 (And.intro @OutsAt.eq_2 (And.intro @OutsAt.eq_3 (And.intro @convBytes.eq_1 (And.intro @aopsD_nil (And.intro @aopsD_look (@aopsD_eff)))))))))))))))))))))))))))))
theorem evD5 : type_of% (And.intro @dLook_some (And.intro @dEff_some (And.intro @stepE.eq_1 (And.intro @runE_go (And.intro @runE_call (And.intro @stabA_nil (And.intro @stabA_cons (And.intro @stab1_some (And.intro @slotIs.eq_1 (And.intro @slotIs.eq_2 (And.intro @callK.eq_1 (And.intro @callKD.eq_1 (And.intro @St.unpin.eq_1 (And.intro @St.resultV.eq_def (And.intro @St.res1.eq_1 (And.intro @St.res1.eq_2 (And.intro @St.resL.eq_1 (And.intro @St.resL.eq_2 (And.intro @ObjsAt.eq_1 (And.intro @ObjsAt.eq_2 (And.intro @St.swap.eq_1 (And.intro @swapN.eq_1 (And.intro @aggEq.eq_1 (And.intro @aggEq.eq_2 (And.intro @aggEq.eq_3 (And.intro @St.pureSlot.eq_1 (And.intro @joinA.eq_def (And.intro @aopsS_cons (And.intro @aopsS_nil (@St.unflat.eq_1)))))))))))))))))))))))))))))) := And.intro @dLook_some (And.intro @dEff_some (And.intro @stepE.eq_1 (And.intro @runE_go (And.intro @runE_call (And.intro @stabA_nil (And.intro @stabA_cons (And.intro @stab1_some (And.intro @slotIs.eq_1 (And.intro @slotIs.eq_2 (And.intro @callK.eq_1 (And.intro @callKD.eq_1 (And.intro @St.unpin.eq_1 (And.intro @St.resultV.eq_def (And.intro @St.res1.eq_1 (And.intro @St.res1.eq_2 (And.intro @St.resL.eq_1 (And.intro @St.resL.eq_2 (And.intro @ObjsAt.eq_1 (And.intro @ObjsAt.eq_2 (And.intro @St.swap.eq_1 (And.intro @swapN.eq_1 (And.intro @aggEq.eq_1 (And.intro @aggEq.eq_2 (And.intro @aggEq.eq_3 (And.intro @St.pureSlot.eq_1 (And.intro @joinA.eq_def (And.intro @aopsS_cons (And.intro @aopsS_nil (@St.unflat.eq_1)))))))))))))))))))))))))))))
theorem evD6 : type_of% (And.intro @St.pureObj.eq_1 (And.intro @St.toOwnC.eq_1 (And.intro @exec0.eq_1 (And.intro @mop.eq_def (And.intro @mopSet.eq_1 (And.intro @mopGet.eq_1 (And.intro @mopLen.eq_1 (And.intro @newMapOf.eq_def (And.intro @runR_newm (And.intro @mset.eq_1 (@mget.eq_1))))))))))) := And.intro @St.pureObj.eq_1 (And.intro @St.toOwnC.eq_1 (And.intro @exec0.eq_1 (And.intro @mop.eq_def (And.intro @mopSet.eq_1 (And.intro @mopGet.eq_1 (And.intro @mopLen.eq_1 (And.intro @newMapOf.eq_def (And.intro @runR_newm (And.intro @mset.eq_1 (@mget.eq_1))))))))))
theorem evT : type_of% (And.intro @mkS_slots (And.intro @mkS_heap (And.intro @mkS_n (And.intro @decide_true (And.intro @decide_false (And.intro @true_and (And.intro @and_true (And.intro @Option.map_some.{0,0} (And.intro @Option.map_none.{0,0} (And.intro @List.getElem?_cons_zero.{0} (And.intro @List.getElem?_cons_succ.{0} (And.intro @List.getElem?_nil.{0} (And.intro @Nat.succ_ne_zero (And.intro @Nat.zero_ne_one (And.intro @Nat.one_ne_zero (And.intro @Bool.false_eq_true (And.intro @Int.toNat_natCast (And.intro @not_false_eq_true (And.intro @not_true_eq_false (And.intro @fillRows_cons (And.intro @fillRows_nil (And.intro @atoms_nil (And.intro @atoms_cons (And.intro @atom_v (And.intro @atom_sl (And.intro @atom_ref (And.intro @atom_own (And.intro @atom_ptr (And.intro @atom_fn (And.intro @good_agg (And.intro @good_v (And.intro @good_sl (And.intro @good_ref (And.intro @good_own (And.intro @good_ptr (And.intro @good_fn (And.intro @List.map_nil.{0,0} (And.intro @List.map_cons.{0,0} (And.intro @List.length_nil.{0} (And.intro @List.length_cons.{0} (And.intro @List.zip_nil_left.{0,0} (And.intro @List.zip_nil_right.{0,0} (And.intro @List.zip_cons_cons.{0,0} (And.intro @List.contains_nil.{0} (And.intro @List.contains_cons.{0} (And.intro @Bool.or_false (And.intro @Bool.false_or (And.intro @Bool.or_true (And.intro @Bool.true_or (And.intro @List.length_map.{0,0} (And.intro @List.nil_append.{0} (And.intro @List.cons_append.{0} (And.intro @List.take_zero.{0} (And.intro @List.drop_zero.{0} (And.intro @List.take_nil.{0} (And.intro @List.drop_nil.{0} (And.intro @Nat.zero_add (And.intro @Nat.add_zero (And.intro @Nat.sub_zero (And.intro @List.append_nil.{0} (And.intro @List.getD_cons_zero.{0} (And.intro @List.getD_cons_succ.{0} (And.intro @Nat.zero_mul (And.intro @List.not_mem_nil.{0} (And.intro @or_true (And.intro @true_or (And.intro @false_or (And.intro @or_false (And.intro @and_self (And.intro @List.take_succ_cons.{0} (And.intro @List.drop_succ_cons.{0} (And.intro @List.length_replicate.{0} (And.intro @ints_len (And.intro @ints_row (And.intro @ints_drop (And.intro @ints_take (And.intro @ints_nil_iff (And.intro @ints_app (And.intro @bys_len (And.intro @bys_row (And.intro @bys_drop (And.intro @bys_take (And.intro @bys_app (And.intro @List.getElem?_toArray.{0} (And.intro @Option.bind_some.{0,0} (And.intro @Bool.true_beq (And.intro @Bool.false_beq (And.intro @Bool.not_true (And.intro @Bool.not_false (And.intro @arr0_isEmpty.{0} (And.intro @arr1_isEmpty.{0} (And.intro @ints_ex (And.intro @Bool.and_true (And.intro @Bool.and_self (And.intro @Bool.and_false (And.intro @Bool.false_and (And.intro @Bool.true_and (And.intro @bys_nil_iff (And.intro @List.append_eq_nil_iff.{0} (And.intro @Int.natCast_nonneg (And.intro @Nat.mul_one (And.intro @bys_ex (And.intro @Option.isNone_some.{0} (And.intro @Option.isNone_none.{0} (And.intro @Option.isSome_some.{0} (And.intro @List.take_take.{0} (And.intro @Nat.min_self (And.intro @Nat.le_refl (And.intro @bys_map (And.intro @bys_str (And.intro @bs_eq (And.intro @beq_self_eq_true.{0} (And.intro @keyD_int (And.intro @keyD_str (And.intro @keyD_pair (And.intro @mkSM_slots (And.intro @mkSM_heap (And.intro @mkSM_n (@mkSM_mp))))))))))))))))))))))))))))))))))))))))))))))))))))))))))))))))))))))))))))))))))))))))))))))))))))))))))))))))))))))) := And.intro @mkS_slots (And.intro @mkS_heap (And.intro @mkS_n (And.intro @decide_true (And.intro @decide_false (And.intro @true_and (And.intro @and_true (And.intro @Option.map_some.{0,0} (And.intro @Option.map_none.{0,0} (And.intro @List.getElem?_cons_zero.{0} (And.intro @List.getElem?_cons_succ.{0} (And.intro @List.getElem?_nil.{0} (And.intro @Nat.succ_ne_zero (And.intro @Nat.zero_ne_one (And.intro @Nat.one_ne_zero (And.intro @Bool.false_eq_true (And.intro @Int.toNat_natCast (And.intro @not_false_eq_true (And.intro @not_true_eq_false (And.intro @fillRows_cons (And.intro @fillRows_nil (And.intro @atoms_nil (And.intro @atoms_cons (And.intro @atom_v (And.intro @atom_sl (And.intro @atom_ref (And.intro @atom_own (And.intro @atom_ptr (And.intro @atom_fn (And.intro @good_agg (And.intro @good_v (And.intro @good_sl (And.intro @good_ref (And.intro @good_own (And.intro @good_ptr (And.intro @good_fn (And.intro @List.map_nil.{0,0} (And.intro @List.map_cons.{0,0} (And.intro @List.length_nil.{0} (And.intro @List.length_cons.{0} (And.intro @List.zip_nil_left.{0,0} (And.intro @List.zip_nil_right.{0,0} (And.intro @List.zip_cons_cons.{0,0} (And.intro @List.contains_nil.{0} (And.intro @List.contains_cons.{0} (And.intro @Bool.or_false (And.intro @Bool.false_or (And.intro @Bool.or_true (And.intro @Bool.true_or (And.intro @List.length_map.{0,0} (And.intro @List.nil_append.{0} (And.intro @List.cons_append.{0} (And.intro @List.take_zero.{0} (And.intro @List.drop_zero.{0} (And.intro @List.take_nil.{0} (And.intro @List.drop_nil.{0} (And.intro @Nat.zero_add (And.intro @Nat.add_zero (And.intro @Nat.sub_zero (And.intro @List.append_nil.{0} (And.intro @List.getD_cons_zero.{0} (And.intro @List.getD_cons_succ.{0} (And.intro @Nat.zero_mul (And.intro @List.not_mem_nil.{0} (And.intro @or_true (And.intro @true_or (And.intro @false_or (And.intro @or_false (And.intro @and_self (And.intro @List.take_succ_cons.{0} (And.intro @List.drop_succ_cons.{0} (And.intro @List.length_replicate.{0} (And.intro @ints_len (And.intro @ints_row (And.intro @ints_drop (And.intro @ints_take (And.intro @ints_nil_iff (And.intro @ints_app (And.intro @bys_len (And.intro @bys_row (And.intro @bys_drop (And.intro @bys_take (And.intro @bys_app (And.intro @List.getElem?_toArray.{0} (And.intro @Option.bind_some.{0,0} (And.intro @Bool.true_beq (And.intro @Bool.false_beq (And.intro @Bool.not_true (And.intro @Bool.not_false (And.intro @arr0_isEmpty.{0} (And.intro @arr1_isEmpty.{0} (And.intro @ints_ex (And.intro @Bool.and_true (And.intro @Bool.and_self (And.intro @Bool.and_false (And.intro @Bool.false_and (And.intro @Bool.true_and (And.intro @bys_nil_iff (And.intro @List.append_eq_nil_iff.{0} (And.intro @Int.natCast_nonneg (And.intro @Nat.mul_one (And.intro @bys_ex (And.intro @Option.isNone_some.{0} (And.intro @Option.isNone_none.{0} (And.intro @Option.isSome_some.{0} (And.intro @List.take_take.{0} (And.intro @Nat.min_self (And.intro @Nat.le_refl (And.intro @bys_map (And.intro @bys_str (And.intro @bs_eq (And.intro @beq_self_eq_true.{0} (And.intro @keyD_int (And.intro @keyD_str (And.intro @keyD_pair (And.intro @mkSM_slots (And.intro @mkSM_heap (And.intro @mkSM_n (@mkSM_mp))))))))))))))))))))))))))))))))))))))))))))))))))))))))))))))))))))))))))))))))))))))))))))))))))))))))))))))))))))))
theorem evA : type_of% (And.intro evD0 (And.intro evD1 (And.intro evD2 (And.intro evD3 (And.intro evD4 (And.intro evD5 (And.intro evD6 (evT)))))))) := And.intro evD0 (And.intro evD1 (And.intro evD2 (And.intro evD3 (And.intro evD4 (And.intro evD5 (And.intro evD6 (evT)))))))
theorem evB : type_of% (And.intro evA (And.intro @if_false.{1} (And.intro @if_true.{1} (And.intro @if_false.{0} (And.intro @if_true.{0} (And.intro @ne_eq.{1} (And.intro @false_implies (And.intro @implies_true.{0} @implies_true.{1})))))))) := And.intro evA (And.intro @if_false.{1} (And.intro @if_true.{1} (And.intro @if_false.{0} (And.intro @if_true.{0} (And.intro @ne_eq.{1} (And.intro @false_implies (And.intro @implies_true.{0} @implies_true.{1})))))))
theorem evX {P : Prop} (h : P := by simp (maxSteps := 4000000) only [↓reduceIte, Nat.reduceLT, Nat.reduceEqDiff, reduceCtorEq, Nat.reduceAdd, Nat.reduceMul, Int.reduceLE, Int.reduceLT, Int.reduceToNat, Nat.reduceLeDiff, Nat.reduceSub, Int.reduceEq, Nat.reduceBEq, List.replicate, List.set, evB]) : P := h
theorem sdX {p : Prop} (k : p := by (repeat' with_reducible apply And.intro) <;> (first | omega | with_reducible trivial | with_reducible assumption)) : p := k
theorem law_walk {P : Program} {f : FuncId} {ds : List D} {W : World} {vs : List Value} (h : Contract P f ds (.v (.bool true)) []) (hv : RepL (immOf W) noLocs ds vs) :
    Calls P f vs.toArray W fun e w' => e = .returned (.bool true) ∧ RowKit.Below W.heap.size W w' := by
  refine (h W (immOf W) vs (immOk_of W) hv).mono fun e w' ⟨v, ρ', I', he, _, _, hr, _, _, hx, _⟩ => ?_
  have := rep_v_inv hr
  subst this
  exact ⟨he, hx.below⟩
section
variable {P : Program}
theorem opens_i64 {t : TypeId} (h : P.underlying t = some (.int .i64)) : Opens P t (fun n : Int => [i64 n]) (fun n => -9223372036854775808 ≤ n ∧ n ≤ 9223372036854775807) :=
  opens_map (opens_int h) fun n hn => ⟨n, by simp [Lit.wf, IntKind.min, IntKind.max, IntKind.signed, IntKind.bits] at hn; omega, rfl⟩
end
section
variable {P : Program}
theorem opens_cell {t : TypeId} {α : Type} {enc : α → D} {ok : α → Prop} (h : Opens P t (fun a => [enc a]) ok) {H : Type} {encH : TypeId × Value → H} {w : World} {fuel : Nat} {cs : List Value} {off : Nat} {y : DataW H × List MemPlace}
    (hl : off < cs.length) (hx : DataW.trod encH P w 0 (fun _ => true) true fuel t ((cs.drop off).take 1) = some y) : ∃ a, ok a ∧ ∃ v, cs[off]? = some v ∧ Rep (immOf w) noLocs (enc a) v ∧ v.oneCell' = true := by
  obtain ⟨a, g1, g2, g3⟩ := h H encH w fuel _ _ hx
  have hv : cs[off]? = some (cs[off]'hl) := List.getElem?_eq_getElem hl
  have h2 : ((cs.drop off).take 1)[0]? = some (cs[off]'hl) := by
    rw [List.getElem?_take, if_pos (by decide), List.getElem?_drop]
    exact hv
  have := g3 0 (enc a) _ rfl h2
  exact ⟨a, g1, _, hv, this.1, this.2⟩
theorem opens_arr {t e : TypeId} {n : Nat} {α : Type} {enc : α → D} {ok : α → Prop} (ht : P.underlying t = some (.array n e)) (hc : P.cellsOf e = 1) (hct : P.cellsOf t = n) (he : Opens P e (fun a => [enc a]) ok) :
    Opens P t (fun l : List α => l.map enc) (fun l => l.length = n ∧ ∀ a ∈ l, ok a) := by
  intro H encH w fuel cs x hx
  obtain ⟨xs, m, rfl, rfl, hl, hlen, h⟩ := DataW.trod_array ht hx
  rw [hct] at hl
  have key : ∀ i, i < n → ∃ a, ok a ∧ ∃ v, cs[i]? = some v ∧ Rep (immOf w) noLocs (enc a) v ∧ v.oneCell' = true := by
    intro i hi
    have h1 := h i hi
    rw [hc, Nat.mul_one, List.getElem?_eq_getElem (by omega)] at h1
    exact opens_cell he (by omega) h1
  obtain ⟨l, hll, hlp⟩ := choose_list key
  refine ⟨l, ⟨hll, fun a ha => ?_⟩, by simp; omega, fun i d v q1 q2 => ?_⟩
  · obtain ⟨i, hi⟩ := List.getElem?_of_mem ha
    exact (hlp i a hi).1
  · rw [List.getElem?_map] at q1
    cases hq : l[i]? with
    | none => simp [hq] at q1
    | some a =>
      simp [hq] at q1
      subst q1
      obtain ⟨_, v', hv', r⟩ := hlp i a hq
      rw [hv'] at q2; cases q2
      exact r
theorem opens_arr2i {t e : TypeId} (ht : P.underlying t = some (.array 2 e)) (hc : P.cellsOf e = 1) (hct : P.cellsOf t = 2) (he : P.underlying e = some (.int .i64)) :
    Opens P t (fun x : Int × Int => [i64 x.1, i64 x.2]) (fun x => (-9223372036854775808 ≤ x.1 ∧ x.1 ≤ 9223372036854775807) ∧ (-9223372036854775808 ≤ x.2 ∧ x.2 ≤ 9223372036854775807)) :=
  opens_map (opens_arr ht hc hct (opens_i64 he)) fun l hl => by
    obtain ⟨h1, h2⟩ := hl
    match l, h1 with
    | [a, b], _ => exact ⟨(a, b), ⟨h2 a (by simp), h2 b (by simp)⟩, rfl⟩
theorem opens_arr3i {t e : TypeId} (ht : P.underlying t = some (.array 3 e)) (hc : P.cellsOf e = 1) (hct : P.cellsOf t = 3) (he : P.underlying e = some (.int .i64)) :
    Opens P t (fun x : Int × Int × Int => [i64 x.1, i64 x.2.1, i64 x.2.2]) (fun x => (-9223372036854775808 ≤ x.1 ∧ x.1 ≤ 9223372036854775807) ∧ (-9223372036854775808 ≤ x.2.1 ∧ x.2.1 ≤ 9223372036854775807) ∧ (-9223372036854775808 ≤ x.2.2 ∧ x.2.2 ≤ 9223372036854775807)) :=
  opens_map (opens_arr ht hc hct (opens_i64 he)) fun l hl => by
    obtain ⟨h1, h2⟩ := hl
    match l, h1 with
    | [a, b, c], _ => exact ⟨(a, b, c), ⟨h2 a (by simp), h2 b (by simp), h2 c (by simp)⟩, rfl⟩
end
section
variable {P : Program}
end
def bleB (o p : List Bool) : Prop := o.length = p.length ∧ ∀ j, o.getD j false = true → p.getD j false = true
theorem bleB_refl (o : List Bool) : bleB o o := ⟨rfl, fun _ h => h⟩
theorem bleB_trans {o p q : List Bool} (h : bleB o p) (k : bleB p q) : bleB o q := ⟨h.1.trans k.1, fun j g => k.2 j (h.2 j g)⟩
theorem set_ble (o : List Bool) (i : Nat) : bleB o (o.set i true) := by
  refine ⟨by simp, fun j h => ?_⟩
  simp only [List.getD, List.getElem?_set] at h ⊢
  split
  · split
    · rfl
    · rename_i h1 h2
      rw [List.getElem?_eq_none (by omega)] at h; cases h
  · exact h
theorem ble_count : ∀ {o p : List Bool}, bleB o p → o.count true ≤ p.count true ∧ (o.count true = p.count true → o = p)
  | [], [], _ => ⟨Nat.le_refl _, fun _ => rfl⟩
  | [], _ :: _, h => by have := h.1; simp at this
  | _ :: _, [], h => by have := h.1; simp at this
  | a :: o, b :: p, h => by
    have h1 : bleB o p := ⟨by have := h.1; simpa using this, fun j g => by have := h.2 (j + 1); simpa using this (by simpa using g)⟩
    obtain ⟨g1, g2⟩ := ble_count h1
    have h0 : a = true → b = true := by have := h.2 0; simpa using this
    cases a <;> cases b
    · simp only [List.count_cons]; refine ⟨by simpa using g1, fun e => ?_⟩
      rw [g2 (by simpa using e)]
    · simp only [List.count_cons]
      refine ⟨by simp; omega, fun e => ?_⟩
      simp at e; omega
    · cases h0 rfl
    · simp only [List.count_cons]; refine ⟨by simpa using g1, fun e => ?_⟩
      rw [g2 (by simpa using e)]
def lowB (m : Nat) (c : Int) : Nat := (BitVec.ofInt IntKind.i64.bits c &&& BitVec.ofInt IntKind.i64.bits (m : Int)).toNat
theorem lowB_le (m : Nat) (c : Int) (hm : m ≤ 2147483647) : lowB m c ≤ m := by
  rw [lowB, BitVec.toNat_and]
  refine Nat.le_trans Nat.and_le_right ?_
  simp only [BitVec.toNat_ofInt]
  have : ((m : Int) % ((2 ^ IntKind.i64.bits : Nat) : Int)).toNat = m % 2 ^ IntKind.i64.bits := by
    rw [← Int.natCast_emod]; rfl
  rw [this]
  exact Nat.mod_le _ _
theorem lowB_wrap (m : Nat) (c : Int) (hm : m ≤ 2147483647) : IntKind.i64.wrap ((BitVec.ofInt IntKind.i64.bits c &&& BitVec.ofInt IntKind.i64.bits (m : Int)).toNat : Int) = (lowB m c : Int) := by
  have h := lowB_le m c hm
  exact i64_in (by omega) (by unfold lowB at h; omega)
theorem lowW1 (c : Int) : IntKind.i64.wrap ((BitVec.ofInt IntKind.i64.bits c &&& BitVec.ofInt IntKind.i64.bits 1).toNat : Int) = (lowB 1 c : Int) := lowB_wrap 1 c (by decide)
theorem lowW3 (c : Int) : IntKind.i64.wrap ((BitVec.ofInt IntKind.i64.bits c &&& BitVec.ofInt IntKind.i64.bits 3).toNat : Int) = (lowB 3 c : Int) := lowB_wrap 3 c (by decide)
theorem lowW7 (c : Int) : IntKind.i64.wrap ((BitVec.ofInt IntKind.i64.bits c &&& BitVec.ofInt IntKind.i64.bits 7).toNat : Int) = (lowB 7 c : Int) := lowB_wrap 7 c (by decide)
theorem lowW255 (c : Int) : IntKind.i64.wrap ((BitVec.ofInt IntKind.i64.bits c &&& BitVec.ofInt IntKind.i64.bits 255).toNat : Int) = (lowB 255 c : Int) := lowB_wrap 255 c (by decide)
theorem tmodN (a b : Nat) : Int.tmod (a : Int) (b : Int) = ((a % b : Nat) : Int) := rfl
def iis (l : List (List Int)) : List (List D) := l.map fun x => [.sl false (ints x)]
theorem iis_len (l : List (List Int)) : (iis l).length = l.length := by simp [iis]
theorem iis_row (l : List (List Int)) : (∀ row ∈ iis l, row.length = 1) = True := by simp [iis]
theorem iis_get {l : List (List Int)} {i : Nat} (h : i < l.length) : (iis l).getD i [] = [.sl false (ints (l.getD i []))] := by
  simp [iis, List.getD, List.getElem?_eq_getElem h]
theorem iis_app (l m : List (List Int)) : iis l ++ iis m = iis (l ++ m) := by simp [iis]
theorem iis_take (l : List (List Int)) (k : Nat) : (iis l).take k = iis (l.take k) := by simp [iis]
theorem iis_one (z : List Int) : [[D.sl false (ints z)]] = iis [z] := rfl
def bos (l : List Bool) : List (List D) := l.map fun b => [bo b]
theorem bos_len (l : List Bool) : (bos l).length = l.length := by simp [bos]
theorem bos_row (l : List Bool) : (∀ row ∈ bos l, row.length = 1) = True := by
  simp only [bos, List.mem_map, eq_iff_iff, iff_true]
  rintro row ⟨x, _, rfl⟩; rfl
theorem bos_get {l : List Bool} {i : Nat} (h : i < l.length) : (bos l).getD i [] = [bo (l.getD i false)] := by
  simp [bos, List.getD, List.getElem?_eq_getElem h]
theorem bos_app (l m : List Bool) : bos l ++ bos m = bos (l ++ m) := by simp [bos]
theorem bos_take (l : List Bool) (k : Nat) : (bos l).take k = bos (l.take k) := by simp [bos]
theorem bos_one (b : Bool) : [[bo b]] = bos [b] := rfl
theorem bos_nil (l : List Bool) : (bos l = []) = (l = []) := by simp [bos]
def labD (z : Int) : Nat := lowB 3 z + lowB 1 (z.fdiv (2 ^ min 2 IntKind.i64.bits))
def numD (z : Int) : Nat := lowB 7 z + 1
def startD (z : Int) : Nat := lowB 255 (z.fdiv (2 ^ min 3 IntKind.i64.bits)) % numD z
theorem labD_le (z : Int) : labD z ≤ 4 := by
  have h1 := lowB_le 3 z (by decide)
  have h2 := lowB_le 1 (z.fdiv (2 ^ min 2 IntKind.i64.bits)) (by decide)
  unfold labD; omega
theorem numD_le (z : Int) : 1 ≤ numD z ∧ numD z ≤ 8 := by
  have h1 := lowB_le 7 z (by decide)
  unfold numD; omega
theorem startD_lt (z : Int) : startD z < numD z := Nat.mod_lt _ (by have := numD_le z; omega)
def finD (f : Int) (n : Nat) : List Bool := (List.range n).map fun i => ((lowB 1 (f.fdiv (2 ^ min i IntKind.i64.bits)) : Int) == 1)
theorem finD_len (f : Int) (n : Nat) : (finD f n).length = n := by simp [finD]
theorem finD_succ (f : Int) (n : Nat) : finD f (n + 1) = finD f n ++ [((lowB 1 (f.fdiv (2 ^ min n IntKind.i64.bits)) : Int) == 1)] := by simp [finD, List.range_succ]
def negs (n : Nat) : List Int := List.replicate n (-1)
def nx0 (L n : Nat) : List (List Int) := List.replicate n (negs L)
def setN (N : List (List Int)) (f c : Nat) (t : Int) : List (List Int) := N.set f ((N.getD f []).set c t)
def mvF (k : Nat) (x : Int × Int × Int) : Nat := lowB 255 x.1 % k
def mvT (k : Nat) (x : Int × Int × Int) : Nat := lowB 255 x.2.1 % k
def mvC (L : Nat) (x : Int × Int × Int) : Nat := lowB 255 x.2.2 % L
def nxD (L k : Nat) (l : List (Int × Int × Int)) : Nat → List (List Int)
  | 0 => nx0 L k
  | i + 1 => setN (nxD L k l i) (mvF k (l.getD i (0, 0, 0))) (mvC L (l.getD i (0, 0, 0))) (mvT k (l.getD i (0, 0, 0)))
structure NOk (L k : Nat) (N : List (List Int)) : Prop where
  len : N.length = k
  row : ∀ r ∈ N, r.length = L ∧ ∀ t ∈ r, -1 ≤ t ∧ t < (k : Int)
theorem NOk.get {L k : Nat} {N : List (List Int)} (h : NOk L k N) {s : Nat} (hs : s < k) : (N.getD s []).length = L ∧ ∀ t ∈ N.getD s [], -1 ≤ t ∧ t < (k : Int) := by
  have hl := h.len
  have e : N.getD s [] = N[s]'(by omega) := by simp [List.getD, List.getElem?_eq_getElem (show s < N.length by omega)]
  rw [e]; exact h.row _ (List.getElem_mem _)
theorem nx0_ok (L : Nat) {k : Nat} (hk : 1 ≤ k) : NOk L k (nx0 L k) := by
  refine ⟨by simp [nx0], fun r hr => ?_⟩
  rw [List.eq_of_mem_replicate hr]
  refine ⟨by simp [negs], fun t ht => ?_⟩
  rw [List.eq_of_mem_replicate ht]; omega
theorem setN_ok {L k : Nat} {N : List (List Int)} (h : NOk L k N) {f c t : Nat} (hf : f < k) (ht : t < k) : NOk L k (setN N f c t) := by
  refine ⟨by simp [setN, h.len], fun r hr => ?_⟩
  rcases List.mem_or_eq_of_mem_set hr with q | q
  · exact h.row r q
  · obtain ⟨g1, g2⟩ := h.get hf
    rw [q]
    refine ⟨by simpa using g1, fun u hu => ?_⟩
    rcases List.mem_or_eq_of_mem_set hu with q2 | q2
    · exact g2 u q2
    · rw [q2]; omega
theorem nxD_ok {L k : Nat} (hk : 1 ≤ k) (l : List (Int × Int × Int)) : ∀ i, NOk L k (nxD L k l i)
  | 0 => nx0_ok L hk
  | i + 1 => setN_ok (nxD_ok hk l i) (Nat.mod_lt _ hk) (Nat.mod_lt _ hk)
def nextD (L k : Nat) (l : List (Int × Int × Int)) : List (List Int) := nxD L k l (if L = 0 then 0 else min l.length 24)
theorem nextD_ok {L k : Nat} (hk : 1 ≤ k) (l : List (Int × Int × Int)) : NOk L k (nextD L k l) := nxD_ok hk l _
def toD (N : List (List Int)) (s k : Int) : Int := if s < 0 ∨ (N.length : Int) ≤ s ∨ k < 0 ∨ ((N.getD s.toNat []).length : Int) ≤ k then -1 else (N.getD s.toNat []).getD k.toNat 0
def runD (N : List (List Int)) : Int → List Int → Int
  | s, [] => s
  | s, k :: w => if s < 0 then s else runD N (toD N s k) w
def endsD (F : List Bool) (N : List (List Int)) (s : Int) (w : List Int) : Bool := decide (0 ≤ runD N s w) && F.getD (runD N s w).toNat false
theorem toD_ok {L k : Nat} {N : List (List Int)} (h : NOk L k N) (s c : Int) : -1 ≤ toD N s c ∧ toD N s c < (k : Int) ∨ toD N s c = -1 := by
  unfold toD
  split
  · exact .inr rfl
  · rename_i hn
    have hl := h.len
    have hs : s.toNat < k := by omega
    obtain ⟨g1, g2⟩ := h.get hs
    have hc : c.toNat < (N.getD s.toNat []).length := by omega
    left
    have e : (N.getD s.toNat []).getD c.toNat 0 = (N.getD s.toNat [])[c.toNat] := by
      generalize N.getD s.toNat [] = r at hc ⊢
      simp [List.getD, List.getElem?_eq_getElem hc]
    rw [e]; exact g2 _ (List.getElem_mem _)
theorem runD_neg {N : List (List Int)} : ∀ {w : List Int} {s : Int}, s < 0 → runD N s w = s
  | [], s, _ => rfl
  | k :: w, s, h => by rw [runD, if_pos h]
theorem runD_app {N : List (List Int)} : ∀ {w : List Int} {s : Int} {k : Int}, runD N s (w ++ [k]) = if runD N s w < 0 then runD N s w else toD N (runD N s w) k
  | [], s, k => by by_cases h : s < 0 <;> simp [runD, h]
  | x :: w, s, k => by
    rw [List.cons_append, runD, runD]
    by_cases h : s < 0
    · rw [if_pos h, if_pos h, if_pos h]
    · rw [if_neg h, if_neg h, runD_app]
def fam (n : Nat) (g : Nat → AObj) : List (Nat × AObj) := (List.range n).map fun r => (r + 90000, g r)
def ownRows (n L : Nat) : List (List D) := (List.range n).map fun r => [D.own (r + 90000) 0 L]
theorem lk_none {α : Type} : ∀ {l : List (Nat × α)} {t : Nat}, (∀ x ∈ l, x.1 ≠ t) → lk l t = none
  | [], t, _ => rfl
  | (k, d) :: l, t, h => by
    rw [lk, if_neg (fun e => h (k, d) (by simp) e.symm)]
    exact lk_none fun x hx => h x (by simp [hx])
theorem lk_app {α : Type} : ∀ {l m : List (Nat × α)} {t : Nat}, lk (l ++ m) t = (match lk l t with | some d => some d | none => lk m t)
  | [], m, t => by simp [lk]
  | (k, d) :: l, m, t => by
    rw [List.cons_append, lk, lk]
    split
    · rfl
    · exact lk_app
theorem lk_fam {n : Nat} {g : Nat → AObj} {f : Nat} (h : f < n) : lk (fam n g) (f + 90000) = some (g f) := by
  induction n with
  | zero => omega
  | succ n ih =>
    rw [fam, List.range_succ, List.map_append, ← fam, lk_app]
    rcases Nat.lt_or_ge f n with q | q
    · rw [ih q]
    · have : f = n := by omega
      subst this
      rw [lk_none (by intro x hx; obtain ⟨r, hr, rfl⟩ := List.mem_map.1 hx; have := List.mem_range.1 hr; simp; omega)]
      simp [lk]
theorem lk_famO {n : Nat} {g : Nat → AObj} : lk (fam n g) (n + 90000) = none :=
  lk_none (by intro x hx; obtain ⟨r, hr, rfl⟩ := List.mem_map.1 hx; have := List.mem_range.1 hr; simp; omega)
theorem knowsH_app {st : St} : ∀ {l m : List (Nat × AObj)}, KnowsH st (l ++ m) = (KnowsH st l ∧ KnowsH st m)
  | [], m => by simp [KnowsH]
  | (k, d) :: l, m => by rw [List.cons_append, KnowsH, KnowsH, knowsH_app, and_assoc]
theorem knowsH_iff {st : St} : ∀ {l : List (Nat × AObj)}, KnowsH st l ↔ ∀ x ∈ l, st.heap x.1 = some x.2
  | [] => by simp [KnowsH]
  | (k, d) :: l => by simp [KnowsH, knowsH_iff]
theorem knowsH_fam {st : St} {n : Nat} {g : Nat → AObj} : KnowsH st (fam n g) = ∀ r, r < n → st.heap (r + 90000) = some (g r) := by
  rw [eq_iff_iff, knowsH_iff]
  simp [fam]
theorem ownRows_len (n L : Nat) : (ownRows n L).length = n := by simp [ownRows]
theorem ownRows_get {n L f : Nat} (h : f < n) : (ownRows n L).getD f [] = [D.own (f + 90000) 0 L] := by simp [ownRows, List.getD, h]
theorem ownRows_app (n L : Nat) : ownRows n L ++ [[D.own (n + 90000) 0 L]] = ownRows (n + 1) L := by simp [ownRows, List.range_succ]
theorem ownRows_take (n L : Nat) : (ownRows n L).take n = ownRows n L := List.take_of_length_le (by simp [ownRows])
theorem ownRows_row (n L : Nat) : (∀ row ∈ ownRows n L, row.length = 1) = True := by simp [ownRows]
theorem ownRows_kill {n L k : Nat} (h : decide (k < 90000) = true) : (ownRows n L).map (D.killL k) = ownRows n L := by
  have := of_decide_eq_true h
  simp only [ownRows, List.map_map]
  apply List.map_congr_left
  intro r _
  simp only [Function.comp, D.killL, D.kill]
  rw [if_neg (by omega)]
theorem ownRows_killB {n L k : Nat} (hn : n ≤ 1000000) (h : 50000000 ≤ k) : (ownRows n L).map (D.killL k) = ownRows n L := by
  simp only [ownRows, List.map_map]
  apply List.map_congr_left
  intro r hr
  have := List.mem_range.1 hr
  simp only [Function.comp, D.killL, D.kill]
  rw [if_neg (by omega)]
theorem ownRows_killO {n L : Nat} : (ownRows n L).map (D.killL (n + 90000)) = ownRows n L := by
  simp only [ownRows, List.map_map]
  apply List.map_congr_left
  intro r hr
  have := List.mem_range.1 hr
  simp only [Function.comp, D.killL, D.kill]
  rw [if_neg (by omega)]
theorem purLL_own {h : Nat → Option AObj} {L : Nat} {g : Nat → AObj} : ∀ (l : List Nat), (∀ r ∈ l, h (r + 90000) = some (g r) ∧ (g r).flat = true ∧ (g r).rows.length = L) →
    ∃ p, purLL (pur h 4) (l.map fun r => [D.own (r + 90000) 0 L]) = some (l.map (· + 90000), p, l.map fun r => [D.sl false (g r).rows]) ∧ p
  | [], _ => ⟨True, rfl, trivial⟩
  | r :: l, hg => by
    obtain ⟨p, e, hp⟩ := purLL_own (h := h) (L := L) (g := g) l fun r hr => hg r (by simp [hr])
    obtain ⟨h1, h2, h3⟩ := hg r (by simp)
    refine ⟨((0 + L ≤ (g r).rows.length) ∧ True) ∧ p, ?_, ⟨⟨by omega, trivial⟩, hp⟩⟩
    rw [List.map_cons, purLL, e]
    simp only [purL, pur, purB, h1, h2, if_true, List.nil_append, List.cons_append, List.map_cons, List.append_nil, List.drop_zero, List.take_of_length_le (Nat.le_of_eq h3)]
theorem map90000_has {l : List Nat} {k : Nat} (h : decide (k < 90000) = true) : (l.map (· + 90000)).contains k = false := by
  have := of_decide_eq_true h
  simp only [List.contains_eq_mem, List.mem_map, decide_eq_false_iff_not]
  rintro ⟨r, _, q⟩; omega
def tri (l : List (Int × Int × Int)) : List (List D) := l.map fun x => [i64 x.1, i64 x.2.1, i64 x.2.2]
theorem tri_len (l : List (Int × Int × Int)) : (tri l).length = l.length := by simp [tri]
theorem tri_get {l : List (Int × Int × Int)} {i : Nat} (h : i < l.length) : (tri l).getD i [] = [i64 (l.getD i (0, 0, 0)).1, i64 (l.getD i (0, 0, 0)).2.1, i64 (l.getD i (0, 0, 0)).2.2] := by
  simp [tri, List.getD, List.getElem?_eq_getElem h]
def mvs (l : List (Int × Int)) : List (List D) := l.map fun x => [i64 x.1, i64 x.2]
theorem mvs_len (l : List (Int × Int)) : (mvs l).length = l.length := by simp [mvs]
theorem mvs_get {l : List (Int × Int)} {i : Nat} (h : i < l.length) : (mvs l).getD i [] = [i64 (l.getD i (0, 0)).1, i64 (l.getD i (0, 0)).2] := by
  simp [mvs, List.getD, List.getElem?_eq_getElem h]
theorem mvs_take (l : List (Int × Int)) (k : Nat) : (mvs l).take k = mvs (l.take k) := by simp [mvs]
theorem mvs_snoc (l : List (Int × Int)) (a b : Int) : mvs l ++ [[i64 a, i64 b]] = mvs (l ++ [(a, b)]) := by simp [mvs]
def mmv (M : List (List (Int × Int))) : List (List D) := M.map fun r => [.sl false (mvs r)]
theorem mmv_len (M : List (List (Int × Int))) : (mmv M).length = M.length := by simp [mmv]
theorem mmv_get {M : List (List (Int × Int))} {i : Nat} (h : i < M.length) : (mmv M).getD i [] = [.sl false (mvs (M.getD i []))] := by
  simp [mmv, List.getD, List.getElem?_eq_getElem h]
theorem mmv_take (M : List (List (Int × Int))) (k : Nat) : (mmv M).take k = mmv (M.take k) := by simp [mmv]
def nfaD (L s : Nat) (F : List Bool) (M : List (List (Int × Int))) : D := .agg [i64 L, i64 s, .sl false (bos F), .sl false (mmv M)]
structure MOk (L k : Nat) (M : List (List (Int × Int))) : Prop where
  len : M.length = k
  row : ∀ r ∈ M, ∀ x ∈ r, -1 ≤ x.1 ∧ x.1 < (L : Int) ∧ 0 ≤ x.2 ∧ x.2 < (k : Int)
theorem MOk.get {L k : Nat} {M : List (List (Int × Int))} (h : MOk L k M) (s : Nat) : ∀ x ∈ M.getD s [], -1 ≤ x.1 ∧ x.1 < (L : Int) ∧ 0 ≤ x.2 ∧ x.2 < (k : Int) := by
  intro x hx
  rcases Nat.lt_or_ge s M.length with q | q
  · have e : M.getD s [] = M[s] := by simp [List.getD, List.getElem?_eq_getElem q]
    rw [e] at hx
    exact h.row _ (List.getElem_mem _) x hx
  · simp [List.getD, List.getElem?_eq_none q] at hx
def ownRowsV (n : Nat) (g : Nat → Nat) : List (List D) := (List.range n).map fun r => [D.own (r + 90000) 0 (g r)]
theorem ownRowsV_len (n : Nat) (g : Nat → Nat) : (ownRowsV n g).length = n := by simp [ownRowsV]
theorem ownRowsV_row (n : Nat) (g : Nat → Nat) : (∀ row ∈ ownRowsV n g, row.length = 1) = True := by simp [ownRowsV]
theorem ownRowsV_kill {n k : Nat} {g : Nat → Nat} (h : decide (k < 90000) = true) : (ownRowsV n g).map (D.killL k) = ownRowsV n g := by
  have := of_decide_eq_true h
  simp only [ownRowsV, List.map_map]
  apply List.map_congr_left
  intro r hr
  simp only [Function.comp, D.killL, D.kill]
  rw [if_neg (by omega)]
theorem ownRowsV_killB {n k : Nat} {g : Nat → Nat} (hn : n ≤ 10000) (h : decide (10000 + 90000 ≤ k) = true) : (ownRowsV n g).map (D.killL k) = ownRowsV n g := by
  have := of_decide_eq_true h
  simp only [ownRowsV, List.map_map]
  apply List.map_congr_left
  intro r hr
  have := List.mem_range.1 hr
  simp only [Function.comp, D.killL, D.kill]
  rw [if_neg (by omega)]
theorem purLL_ownV {h : Nat → Option AObj} {len : Nat → Nat} {g : Nat → AObj} : ∀ (l : List Nat), (∀ r ∈ l, h (r + 90000) = some (g r) ∧ (g r).flat = true ∧ (g r).rows.length = len r) →
    ∃ p, purLL (pur h 4) (l.map fun r => [D.own (r + 90000) 0 (len r)]) = some (l.map (· + 90000), p, l.map fun r => [D.sl false (g r).rows]) ∧ p
  | [], _ => ⟨True, rfl, trivial⟩
  | r :: l, hg => by
    obtain ⟨p, e, hp⟩ := purLL_ownV (h := h) (len := len) (g := g) l fun r hr => hg r (by simp [hr])
    obtain ⟨h1, h2, h3⟩ := hg r (by simp)
    refine ⟨((0 + len r ≤ (g r).rows.length) ∧ True) ∧ p, ?_, ⟨⟨by omega, trivial⟩, hp⟩⟩
    rw [List.map_cons, purLL, e]
    simp only [purL, pur, purB, h1, h2, if_true, List.nil_append, List.cons_append, List.map_cons, List.append_nil, List.drop_zero, List.take_of_length_le (Nat.le_of_eq h3)]
section
variable {P : Program} {E : Ent}
end
def rowP (r : List Int) : Nat → List (Int × Int)
  | 0 => []
  | j + 1 => rowP r j ++ (if 0 ≤ r.getD j 0 then [((j : Int), r.getD j 0)] else [])
def rowM (r : List Int) : List (Int × Int) := rowP r r.length
def movD (N : List (List Int)) : List (List (Int × Int)) := N.map rowM
theorem rowP_len (r : List Int) : ∀ j, (rowP r j).length ≤ j
  | 0 => Nat.le_refl _
  | j + 1 => by
    have := rowP_len r j
    rw [rowP, List.length_append]
    split <;> simp <;> omega
theorem movD_get {N : List (List Int)} {s : Nat} (h : s < N.length) : (movD N).getD s [] = rowM (N.getD s []) := by
  simp [movD, List.getD, List.getElem?_eq_getElem h]
theorem movD_len (N : List (List Int)) : (movD N).length = N.length := by simp [movD]
end Go.Proofs.Ytbhjmioegdgpnaa
