import Derived.Test.YtcpipfodedfpkaaAbE
import Derived.Lib.Bytes
import Derived.Test.YtcpipfodedfpkaaAbD
set_option linter.unusedSimpArgs false
set_option linter.unusedVariables false
namespace Go.Proofs.Ytcpipfodedfpkaa
open Go.Ab
abbrev u32 (x : BitVec 32) : D := .v (.int .u32 (x.toNat : Int))
abbrev u8 (x : UInt8) : D := .v (.int .u8 (x.toNat : Int))
abbrev i64 (x : Int) : D := .v (.int .i64 x)
abbrev bo (x : Bool) : D := .v (.bool x)
theorem i64_in {n : Int} (h1 : -9223372036854775808 ≤ n) (h2 : n ≤ 9223372036854775807) : IntKind.i64.wrap n = n := by
  rw [IntKind.wrap_i64]; omega
def bys (l : List UInt8) : List (List D) := l.map fun b => [u8 b]
theorem bys_map (l : List UInt8) : (bys l).map byteRow = l := by
  unfold bys
  rw [List.map_map]
  have : byteRow ∘ (fun b : UInt8 => [u8 b]) = id := by
    funext b
    simp [byteRow]
  rw [this, List.map_id]
theorem bys_str (l : List UInt8) : (∀ row ∈ bys l, ∃ n, row = [D.v (.int .u8 n)]) = True := by simp [bys]
theorem bs_eq (l m : List UInt8) : ((⟨l.toArray⟩ : ByteArray).toList == (⟨m.toArray⟩ : ByteArray).toList) = (l == m) := by
  rw [ByteArray.toList_eq, ByteArray.toList_eq]
def ints (l : List Int) : List (List D) := l.map fun z => [i64 z]
theorem ints_len (l : List Int) : (ints l).length = l.length := by simp [ints]
theorem ints_row (l : List Int) : (∀ row ∈ ints l, row.length = 1) = True := by simp [ints]
theorem ints_get {l : List Int} {i : Nat} (h : i < l.length) : (ints l).getD i [] = [i64 (l.getD i 0)] := by
  simp [ints, List.getD, List.getElem?_eq_getElem h]
theorem ints_ex (l : List Int) : (l = [] ∨ ∃ row, row ∈ ints l ∧ row.length = 1) = True := by
  cases l with
  | nil => simp
  | cons a m => simp [ints]
theorem ints_drop (l : List Int) (k : Nat) : (ints l).drop k = ints (l.drop k) := by simp [ints]
theorem ints_take (l : List Int) (k : Nat) : (ints l).take k = ints (l.take k) := by simp [ints]
theorem ints_nil_iff (l : List Int) : (ints l = []) = (l = []) := by simp [ints]
theorem ints_app (l m : List Int) : ints l ++ ints m = ints (l ++ m) := by simp [ints]
theorem ints_one (z : Int) : [[i64 z]] = ints [z] := rfl
theorem bys_len (l : List UInt8) : (bys l).length = l.length := by simp [bys]
theorem bys_nil_iff (l : List UInt8) : (bys l = []) = (l = []) := by simp [bys]
theorem bys_row (l : List UInt8) : (∀ row ∈ bys l, row.length = 1) = True := by simp [bys]
theorem bys_ex (l : List UInt8) : (l = [] ∨ ∃ row, row ∈ bys l ∧ row.length = 1) = True := by
  cases l with
  | nil => simp
  | cons a m => simp [bys]
theorem bys_drop (l : List UInt8) (k : Nat) : (bys l).drop k = bys (l.drop k) := by simp [bys]
theorem bys_take (l : List UInt8) (k : Nat) : (bys l).take k = bys (l.take k) := by simp [bys]
theorem bys_app (l m : List UInt8) : bys l ++ bys m = bys (l ++ m) := by simp [bys]
section
variable {P : Program} {E : Ent} {st : St} {Q : Exit → St → Prop}
theorem awp_id {c : Code} (h : AWP P E c Q st) : AWP P E c Q st := h
theorem id_call {f : FuncId} {args : List D} {pr : PurR (List D)} {nid : Nat} {K : St → D → Prop} (h : CallVC P f args pr st nid K) : CallVC P f args pr st nid K := h
theorem id_and {a b : Prop} (h : a ∧ b) : a ∧ b := h
theorem id_ex {α : Type} {p : α → Prop} (h : ∃ x, p x) : ∃ x, p x := h
theorem id_all {p : Bool → Prop} (h : ∀ x, p x) : ∀ x, p x := h
theorem id_nat {p : Nat → Prop} (h : ∀ x, p x) : ∀ x, p x := h
theorem id_le {T s : St} (h : T.le s) : T.le s := h
theorem awp_condM {c : Operand} {a b : Code} (h : match st.ev c with
    | some (.v (.bool true)) => AWP P E a Q st
    | some (.v (.bool false)) => AWP P E b Q st
    | _ => False) : AWP P E (.cond c a b) Q st := by
  split at h
  · rename_i hc
    exact awp_cond (t := true) hc (fun _ => h) (fun q => by cases q)
  · rename_i hc
    exact awp_cond (t := false) hc (fun q => by cases q) (fun _ => h)
  · cases h
end
theorem evD0 : type_of% (And.intro @aops_nil (And.intro @aops_cons (And.intro @stepR.eq_1 (And.intro @runR_go (And.intro @runR_call (And.intro @runR_nilc (And.intro @St.want.eq_1 (And.intro @exec1.eq_1 (And.intro @val.eq_def (And.intro @St.ev.eq_1 (And.intro @St.ev.eq_2 (And.intro @St.ev.eq_3 (And.intro @St.ev.eq_4 (And.intro @St.evL.eq_1 (And.intro @St.evL.eq_2 (And.intro @St.evO.eq_1 (And.intro @St.evO.eq_2 (And.intro @upd.eq_1 (And.intro @lk.eq_1 (And.intro @lk.eq_2 (And.intro @St.put.eq_1 (And.intro @St.put.eq_2 (And.intro @St.fits.eq_1 (And.intro @St.fits.eq_2 (And.intro @startSt.eq_1 (And.intro @ofV.eq_def (And.intro @ofAtom.eq_def (And.intro @thenA.eq_def (And.intro @loopA.eq_def (@blockA.eq_def)))))))))))))))))))))))))))))) := And.intro @aops_nil (And.intro @aops_cons (And.intro @stepR.eq_1 (And.intro @runR_go (And.intro @runR_call (And.intro @runR_nilc (And.intro @St.want.eq_1 (And.intro @exec1.eq_1 (And.intro @val.eq_def (And.intro @St.ev.eq_1 (And.intro @St.ev.eq_2 (And.intro @St.ev.eq_3 (And.intro @St.ev.eq_4 (And.intro @St.evL.eq_1 (And.intro @St.evL.eq_2 (And.intro @St.evO.eq_1 (And.intro @St.evO.eq_2 (And.intro @upd.eq_1 (And.intro @lk.eq_1 (And.intro @lk.eq_2 (And.intro @St.put.eq_1 (And.intro @St.put.eq_2 (And.intro @St.fits.eq_1 (And.intro @St.fits.eq_2 (And.intro @startSt.eq_1 (And.intro @ofV.eq_def (And.intro @ofAtom.eq_def (And.intro @thenA.eq_def (And.intro @loopA.eq_def (@blockA.eq_def)))))))))))))))))))))))))))))
theorem evD1 : type_of% (And.intro @dbin.eq_def (And.intro @sbin.eq_def (And.intro @sun.eq_def (And.intro @valConvert.eq_def (And.intro @valLen.eq_def (And.intro @isSliceT.eq_def (And.intro @Knows.eq_1 (And.intro @Knows.eq_2 (And.intro @KnowsH.eq_1 (And.intro @KnowsH.eq_2 (And.intro @St.callOf.eq_def (And.intro @St.nilCmp.eq_def (And.intro @aopsL_nil (And.intro @aopsL_cons (And.intro @stepL.eq_1 (And.intro @runL_some (And.intro @bnd.eq_def (And.intro @valSlice.eq_def (And.intro @valLoad.eq_1 (And.intro @valIndexAddr.eq_def (And.intro @valFieldAddr.eq_1 (And.intro @valField.eq_def (And.intro @valIndex.eq_def (And.intro @partD.eq_1 (And.intro @isAggT.eq_def (And.intro @St.rowOf.eq_def (And.intro @St.rowsOf.eq_def (And.intro @valExtract.eq_def (And.intro @valMin.eq_def (@valMax.eq_def)))))))))))))))))))))))))))))) := And.intro @dbin.eq_def (And.intro @sbin.eq_def (And.intro @sun.eq_def (And.intro @valConvert.eq_def (And.intro @valLen.eq_def (And.intro @isSliceT.eq_def (And.intro @Knows.eq_1 (And.intro @Knows.eq_2 (And.intro @KnowsH.eq_1 (And.intro @KnowsH.eq_2 (And.intro @St.callOf.eq_def (And.intro @St.nilCmp.eq_def (And.intro @aopsL_nil (And.intro @aopsL_cons (And.intro @stepL.eq_1 (And.intro @runL_some (And.intro @bnd.eq_def (And.intro @valSlice.eq_def (And.intro @valLoad.eq_1 (And.intro @valIndexAddr.eq_def (And.intro @valFieldAddr.eq_1 (And.intro @valField.eq_def (And.intro @valIndex.eq_def (And.intro @partD.eq_1 (And.intro @isAggT.eq_def (And.intro @St.rowOf.eq_def (And.intro @St.rowsOf.eq_def (And.intro @valExtract.eq_def (And.intro @valMin.eq_def (@valMax.eq_def)))))))))))))))))))))))))))))
theorem evD2 : type_of% (And.intro @hop.eq_def (And.intro @hopAlloc.eq_1 (And.intro @hopBox.eq_1 (And.intro @hopBuildSlice.eq_1 (And.intro @hopMakeSlice.eq_def (And.intro @hopAppend.eq_1 (And.intro @hopCopy.eq_1 (And.intro @hopStore.eq_def (And.intro @hopBytes.eq_def (And.intro @hopConv.eq_def (And.intro @hopNil.eq_def (And.intro @srcD.eq_def (And.intro @isIntT.eq_def (And.intro @St.bind.eq_1 (And.intro @killS.eq_1 (And.intro @killH.eq_1 (And.intro @zrow.eq_1 (And.intro @D.kill.eq_1 (And.intro @D.kill.eq_2 (And.intro @D.kill.eq_3 (And.intro @D.kill.eq_4 (And.intro @D.kill.eq_5 (And.intro @D.kill.eq_6 (And.intro @D.killL.eq_1 (And.intro @D.killL.eq_2 (And.intro @AObj.kill.eq_1 (And.intro @pur.eq_1 (And.intro @pur.eq_2 (And.intro @purB.eq_def (@purL.eq_1)))))))))))))))))))))))))))))) := And.intro @hop.eq_def (And.intro @hopAlloc.eq_1 (And.intro @hopBox.eq_1 (And.intro @hopBuildSlice.eq_1 (And.intro @hopMakeSlice.eq_def (And.intro @hopAppend.eq_1 (And.intro @hopCopy.eq_1 (And.intro @hopStore.eq_def (And.intro @hopBytes.eq_def (And.intro @hopConv.eq_def (And.intro @hopNil.eq_def (And.intro @srcD.eq_def (And.intro @isIntT.eq_def (And.intro @St.bind.eq_1 (And.intro @killS.eq_1 (And.intro @killH.eq_1 (And.intro @zrow.eq_1 (And.intro @D.kill.eq_1 (And.intro @D.kill.eq_2 (And.intro @D.kill.eq_3 (And.intro @D.kill.eq_4 (And.intro @D.kill.eq_5 (And.intro @D.kill.eq_6 (And.intro @D.killL.eq_1 (And.intro @D.killL.eq_2 (And.intro @AObj.kill.eq_1 (And.intro @pur.eq_1 (And.intro @pur.eq_2 (And.intro @purB.eq_def (@purL.eq_1)))))))))))))))))))))))))))))
theorem evD3 : type_of% (And.intro @purL.eq_2 (And.intro @purLL.eq_1 (And.intro @purLL.eq_2 (And.intro @St.freeze.eq_1 (And.intro @D.cells.eq_def (And.intro @Go.Value.oneCell'.eq_def (And.intro @fillD.eq_1 (And.intro @fillD.eq_2 (And.intro @placesL.eq_1 (And.intro @placesL.eq_2 (And.intro @valBuild.eq_1 (And.intro @fnOf.eq_def (And.intro @St.adoptL.eq_1 (And.intro @St.adoptL.eq_2 (And.intro @AObj.ren.eq_1 (And.intro @D.ren.eq_1 (And.intro @D.ren.eq_2 (And.intro @D.ren.eq_3 (And.intro @D.ren.eq_4 (And.intro @D.ren.eq_5 (And.intro @D.ren.eq_6 (And.intro @D.renL.eq_1 (And.intro @D.renL.eq_2 (And.intro @objsOk.eq_1 (And.intro @objsOk.eq_2 (And.intro @St.result.eq_def (And.intro @startM.eq_1 (And.intro @AObj.pinned.eq_1 (And.intro @AObj.bare.eq_1 (@pinAt.eq_1)))))))))))))))))))))))))))))) := And.intro @purL.eq_2 (And.intro @purLL.eq_1 (And.intro @purLL.eq_2 (And.intro @St.freeze.eq_1 (And.intro @D.cells.eq_def (And.intro @Go.Value.oneCell'.eq_def (And.intro @fillD.eq_1 (And.intro @fillD.eq_2 (And.intro @placesL.eq_1 (And.intro @placesL.eq_2 (And.intro @valBuild.eq_1 (And.intro @fnOf.eq_def (And.intro @St.adoptL.eq_1 (And.intro @St.adoptL.eq_2 (And.intro @AObj.ren.eq_1 (And.intro @D.ren.eq_1 (And.intro @D.ren.eq_2 (And.intro @D.ren.eq_3 (And.intro @D.ren.eq_4 (And.intro @D.ren.eq_5 (And.intro @D.ren.eq_6 (And.intro @D.renL.eq_1 (And.intro @D.renL.eq_2 (And.intro @objsOk.eq_1 (And.intro @objsOk.eq_2 (And.intro @St.result.eq_def (And.intro @startM.eq_1 (And.intro @AObj.pinned.eq_1 (And.intro @AObj.bare.eq_1 (@pinAt.eq_1)))))))))))))))))))))))))))))
theorem evD4 : type_of% (And.intro @St.callM.eq_1 (And.intro @killsS.eq_1 (And.intro @killsS.eq_2 (And.intro @killsH.eq_1 (And.intro @killsH.eq_2 (And.intro @adoptM.eq_1 (And.intro @adoptM.eq_2 (And.intro @adoptM.eq_3 (And.intro @struck.eq_1 (And.intro @struck.eq_2 (And.intro @struck.eq_3 (And.intro @sigM.eq_1 (And.intro @purM.eq_1 (And.intro @D.all.eq_1 (And.intro @D.all.eq_2 (And.intro @D.all.eq_3 (And.intro @D.all.eq_4 (And.intro @D.all.eq_5 (And.intro @D.all.eq_6 (And.intro @D.allL.eq_1 (And.intro @D.allL.eq_2 (And.intro @InsAt.eq_1 (And.intro @InsAt.eq_2 (And.intro @OutsAt.eq_1 (And.intro @OutsAt.eq_2 (And.intro @OutsAt.eq_3 (And.intro @convBytes.eq_1 (And.intro @aopsD_nil (And.intro @aopsD_look (@aopsD_eff)))))))))))))))))))))))))))))) := And.intro @St.callM.eq_1 (And.intro @killsS.eq_1 (And.intro @killsS.eq_2 (And.intro @killsH.eq_1 (And.intro @killsH.eq_2 (And.intro @adoptM.eq_1 (And.intro @adoptM.eq_2 (And.intro @adoptM.eq_3 (And.intro @struck.eq_1 (And.intro @struck.eq_2 (And.intro @struck.eq_3 (And.intro @sigM.eq_1 (And.intro @purM.eq_1 (And.intro @D.all.eq_1 (And.intro @D.all.eq_2 (And.intro @D.all.eq_3 (And.intro @D.all.eq_4 (And.intro @D.all.eq_5 (And.intro @D.all.eq_6 (And.intro @D.allL.eq_1 (And.intro @D.allL.eq_2 (And.intro @InsAt.eq_1 (And.intro @InsAt.eq_2 (And.intro @OutsAt.eq_1 (And.intro @OutsAt.eq_2 (And.intro @OutsAt.eq_3 (And.intro @convBytes.eq_1 (And.intro @aopsD_nil (And.intro @aopsD_look (@aopsD_eff)))))))))))))))))))))))))))))
theorem evD5 : type_of% (And.intro @dLook_some (And.intro @dEff_some (And.intro @stepE.eq_1 (And.intro @runE_go (And.intro @runE_call (And.intro @stabA_nil (And.intro @stabA_cons (And.intro @stab1_some (And.intro @slotIs.eq_1 (And.intro @slotIs.eq_2 (And.intro @callK.eq_1 (And.intro @callKD.eq_1 (And.intro @St.unpin.eq_1 (And.intro @St.resultV.eq_def (And.intro @St.res1.eq_1 (And.intro @St.res1.eq_2 (And.intro @St.resL.eq_1 (And.intro @St.resL.eq_2 (And.intro @ObjsAt.eq_1 (And.intro @ObjsAt.eq_2 (And.intro @St.swap.eq_1 (And.intro @swapN.eq_1 (And.intro @aggEq.eq_1 (And.intro @aggEq.eq_2 (And.intro @aggEq.eq_3 (And.intro @St.pureSlot.eq_1 (And.intro @joinA.eq_def (And.intro @aopsS_cons (And.intro @aopsS_nil (@St.unflat.eq_1)))))))))))))))))))))))))))))) := And.intro @dLook_some (And.intro @dEff_some (And.intro @stepE.eq_1 (And.intro @runE_go (And.intro @runE_call (And.intro @stabA_nil (And.intro @stabA_cons (And.intro @stab1_some (And.intro @slotIs.eq_1 (And.intro @slotIs.eq_2 (And.intro @callK.eq_1 (And.intro @callKD.eq_1 (And.intro @St.unpin.eq_1 (And.intro @St.resultV.eq_def (And.intro @St.res1.eq_1 (And.intro @St.res1.eq_2 (And.intro @St.resL.eq_1 (And.intro @St.resL.eq_2 (And.intro @ObjsAt.eq_1 (And.intro @ObjsAt.eq_2 (And.intro @St.swap.eq_1 (And.intro @swapN.eq_1 (And.intro @aggEq.eq_1 (And.intro @aggEq.eq_2 (And.intro @aggEq.eq_3 (And.intro @St.pureSlot.eq_1 (And.intro @joinA.eq_def (And.intro @aopsS_cons (And.intro @aopsS_nil (@St.unflat.eq_1)))))))))))))))))))))))))))))
theorem evD6 : type_of% (And.intro @St.pureObj.eq_1 (And.intro @St.toOwnC.eq_1 (And.intro @exec0.eq_1 (And.intro @mop.eq_def (And.intro @mopSet.eq_1 (And.intro @mopGet.eq_1 (And.intro @mopLen.eq_1 (And.intro @newMapOf.eq_def (And.intro @runR_newm (And.intro @mset.eq_1 (@mget.eq_1))))))))))) := And.intro @St.pureObj.eq_1 (And.intro @St.toOwnC.eq_1 (And.intro @exec0.eq_1 (And.intro @mop.eq_def (And.intro @mopSet.eq_1 (And.intro @mopGet.eq_1 (And.intro @mopLen.eq_1 (And.intro @newMapOf.eq_def (And.intro @runR_newm (And.intro @mset.eq_1 (@mget.eq_1))))))))))
theorem evT : type_of% (And.intro @mkS_slots (And.intro @mkS_heap (And.intro @mkS_n (And.intro @decide_true (And.intro @decide_false (And.intro @true_and (And.intro @and_true (And.intro @Option.map_some.{0,0} (And.intro @Option.map_none.{0,0} (And.intro @List.getElem?_cons_zero.{0} (And.intro @List.getElem?_cons_succ.{0} (And.intro @List.getElem?_nil.{0} (And.intro @Nat.succ_ne_zero (And.intro @Nat.zero_ne_one (And.intro @Nat.one_ne_zero (And.intro @Bool.false_eq_true (And.intro @Int.toNat_natCast (And.intro @not_false_eq_true (And.intro @not_true_eq_false (And.intro @fillRows_cons (And.intro @fillRows_nil (And.intro @atoms_nil (And.intro @atoms_cons (And.intro @atom_v (And.intro @atom_sl (And.intro @atom_ref (And.intro @atom_own (And.intro @atom_ptr (And.intro @atom_fn (And.intro @good_agg (And.intro @good_v (And.intro @good_sl (And.intro @good_ref (And.intro @good_own (And.intro @good_ptr (And.intro @good_fn (And.intro @List.map_nil.{0,0} (And.intro @List.map_cons.{0,0} (And.intro @List.length_nil.{0} (And.intro @List.length_cons.{0} (And.intro @List.zip_nil_left.{0,0} (And.intro @List.zip_nil_right.{0,0} (And.intro @List.zip_cons_cons.{0,0} (And.intro @List.contains_nil.{0} (And.intro @List.contains_cons.{0} (And.intro @Bool.or_false (And.intro @Bool.false_or (And.intro @Bool.or_true (And.intro @Bool.true_or (And.intro @List.length_map.{0,0} (And.intro @List.nil_append.{0} (And.intro @List.cons_append.{0} (And.intro @List.take_zero.{0} (And.intro @List.drop_zero.{0} (And.intro @List.take_nil.{0} (And.intro @List.drop_nil.{0} (And.intro @Nat.zero_add (And.intro @Nat.add_zero (And.intro @Nat.sub_zero (And.intro @List.append_nil.{0} (And.intro @List.getD_cons_zero.{0} (And.intro @List.getD_cons_succ.{0} (And.intro @Nat.zero_mul (And.intro @List.not_mem_nil.{0} (And.intro @or_true (And.intro @true_or (And.intro @false_or (And.intro @or_false (And.intro @and_self (And.intro @List.take_succ_cons.{0} (And.intro @List.drop_succ_cons.{0} (And.intro @List.length_replicate.{0} (And.intro @ints_len (And.intro @ints_row (And.intro @ints_drop (And.intro @ints_take (And.intro @ints_nil_iff (And.intro @ints_app (And.intro @bys_len (And.intro @bys_row (And.intro @bys_drop (And.intro @bys_take (And.intro @bys_app (And.intro @List.getElem?_toArray.{0} (And.intro @Option.bind_some.{0,0} (And.intro @Bool.true_beq (And.intro @Bool.false_beq (And.intro @Bool.not_true (And.intro @Bool.not_false (And.intro @arr0_isEmpty.{0} (And.intro @arr1_isEmpty.{0} (And.intro @ints_ex (And.intro @Bool.and_true (And.intro @Bool.and_self (And.intro @Bool.and_false (And.intro @Bool.false_and (And.intro @Bool.true_and (And.intro @bys_nil_iff (And.intro @List.append_eq_nil_iff.{0} (And.intro @Int.natCast_nonneg (And.intro @Nat.mul_one (And.intro @bys_ex (And.intro @Option.isNone_some.{0} (And.intro @Option.isNone_none.{0} (And.intro @Option.isSome_some.{0} (And.intro @List.take_take.{0} (And.intro @Nat.min_self (And.intro @Nat.le_refl (And.intro @bys_map (And.intro @bys_str (And.intro @bs_eq (And.intro @beq_self_eq_true.{0} (And.intro @keyD_int (And.intro @keyD_str (And.intro @keyD_pair (And.intro @mkSM_slots (And.intro @mkSM_heap (And.intro @mkSM_n (@mkSM_mp))))))))))))))))))))))))))))))))))))))))))))))))))))))))))))))))))))))))))))))))))))))))))))))))))))))))))))))))))))))) := And.intro @mkS_slots (And.intro @mkS_heap (And.intro @mkS_n (And.intro @decide_true (And.intro @decide_false (And.intro @true_and (And.intro @and_true (And.intro @Option.map_some.{0,0} (And.intro @Option.map_none.{0,0} (And.intro @List.getElem?_cons_zero.{0} (And.intro @List.getElem?_cons_succ.{0} (And.intro @List.getElem?_nil.{0} (And.intro @Nat.succ_ne_zero (And.intro @Nat.zero_ne_one (And.intro @Nat.one_ne_zero (And.intro @Bool.false_eq_true (And.intro @Int.toNat_natCast (And.intro @not_false_eq_true (And.intro @not_true_eq_false (And.intro @fillRows_cons (And.intro @fillRows_nil (And.intro @atoms_nil (And.intro @atoms_cons (And.intro @atom_v (And.intro @atom_sl (And.intro @atom_ref (And.intro @atom_own (And.intro @atom_ptr (And.intro @atom_fn (And.intro @good_agg (And.intro @good_v (And.intro @good_sl (And.intro @good_ref (And.intro @good_own (And.intro @good_ptr (And.intro @good_fn (And.intro @List.map_nil.{0,0} (And.intro @List.map_cons.{0,0} (And.intro @List.length_nil.{0} (And.intro @List.length_cons.{0} (And.intro @List.zip_nil_left.{0,0} (And.intro @List.zip_nil_right.{0,0} (And.intro @List.zip_cons_cons.{0,0} (And.intro @List.contains_nil.{0} (And.intro @List.contains_cons.{0} (And.intro @Bool.or_false (And.intro @Bool.false_or (And.intro @Bool.or_true (And.intro @Bool.true_or (And.intro @List.length_map.{0,0} (And.intro @List.nil_append.{0} (And.intro @List.cons_append.{0} (And.intro @List.take_zero.{0} (And.intro @List.drop_zero.{0} (And.intro @List.take_nil.{0} (And.intro @List.drop_nil.{0} (And.intro @Nat.zero_add (And.intro @Nat.add_zero (And.intro @Nat.sub_zero (And.intro @List.append_nil.{0} (And.intro @List.getD_cons_zero.{0} (And.intro @List.getD_cons_succ.{0} (And.intro @Nat.zero_mul (And.intro @List.not_mem_nil.{0} (And.intro @or_true (And.intro @true_or (And.intro @false_or (And.intro @or_false (And.intro @and_self (And.intro @List.take_succ_cons.{0} (And.intro @List.drop_succ_cons.{0} (And.intro @List.length_replicate.{0} (And.intro @ints_len (And.intro @ints_row (And.intro @ints_drop (And.intro @ints_take (And.intro @ints_nil_iff (And.intro @ints_app (And.intro @bys_len (And.intro @bys_row (And.intro @bys_drop (And.intro @bys_take (And.intro @bys_app (And.intro @List.getElem?_toArray.{0} (And.intro @Option.bind_some.{0,0} (And.intro @Bool.true_beq (And.intro @Bool.false_beq (And.intro @Bool.not_true (And.intro @Bool.not_false (And.intro @arr0_isEmpty.{0} (And.intro @arr1_isEmpty.{0} (And.intro @ints_ex (And.intro @Bool.and_true (And.intro @Bool.and_self (And.intro @Bool.and_false (And.intro @Bool.false_and (And.intro @Bool.true_and (And.intro @bys_nil_iff (And.intro @List.append_eq_nil_iff.{0} (And.intro @Int.natCast_nonneg (And.intro @Nat.mul_one (And.intro @bys_ex (And.intro @Option.isNone_some.{0} (And.intro @Option.isNone_none.{0} (And.intro @Option.isSome_some.{0} (And.intro @List.take_take.{0} (And.intro @Nat.min_self (And.intro @Nat.le_refl (And.intro @bys_map (And.intro @bys_str (And.intro @bs_eq (And.intro @beq_self_eq_true.{0} (And.intro @keyD_int (And.intro @keyD_str (And.intro @keyD_pair (And.intro @mkSM_slots (And.intro @mkSM_heap (And.intro @mkSM_n (@mkSM_mp))))))))))))))))))))))))))))))))))))))))))))))))))))))))))))))))))))))))))))))))))))))))))))))))))))))))))))))))))))))
theorem evA : type_of% (And.intro evD0 (And.intro evD1 (And.intro evD2 (And.intro evD3 (And.intro evD4 (And.intro evD5 (And.intro evD6 (evT)))))))) := And.intro evD0 (And.intro evD1 (And.intro evD2 (And.intro evD3 (And.intro evD4 (And.intro evD5 (And.intro evD6 (evT)))))))
theorem evB : type_of% (And.intro evA (And.intro @if_false.{1} (And.intro @if_true.{1} (And.intro @if_false.{0} (And.intro @if_true.{0} (And.intro @ne_eq.{1} (And.intro @false_implies (And.intro @implies_true.{0} @implies_true.{1})))))))) := And.intro evA (And.intro @if_false.{1} (And.intro @if_true.{1} (And.intro @if_false.{0} (And.intro @if_true.{0} (And.intro @ne_eq.{1} (And.intro @false_implies (And.intro @implies_true.{0} @implies_true.{1})))))))
theorem evX {P : Prop} (h : P := by simp (maxSteps := 4000000) only [↓reduceIte, Nat.reduceLT, Nat.reduceEqDiff, reduceCtorEq, Nat.reduceAdd, Nat.reduceMul, Int.reduceLE, Int.reduceLT, Int.reduceToNat, Nat.reduceLeDiff, Nat.reduceSub, Int.reduceEq, Nat.reduceBEq, List.replicate, List.set, evB]) : P := h
theorem sdX {p : Prop} (k : p := by (repeat' with_reducible apply And.intro) <;> (first | omega | with_reducible trivial | with_reducible assumption)) : p := k
theorem law_walk {P : Program} {f : FuncId} {ds : List D} {W : World} {vs : List Value} (h : Contract P f ds (.v (.bool true)) []) (hv : RepL (immOf W) noLocs ds vs) :
    Calls P f vs.toArray W fun e w' => e = .returned (.bool true) ∧ RowKit.Below W.heap.size W w' := by
  refine (h W (immOf W) vs (immOk_of W) hv).mono fun e w' ⟨v, ρ', I', he, _, _, hr, _, _, hx, _⟩ => ?_
  have := rep_v_inv hr
  subst this
  exact ⟨he, hx.below⟩
section
variable {P : Program}
theorem opens_i64 {t : TypeId} (h : P.underlying t = some (.int .i64)) : Opens P t (fun n : Int => [i64 n]) (fun n => -9223372036854775808 ≤ n ∧ n ≤ 9223372036854775807) :=
  opens_map (opens_int h) fun n hn => ⟨n, by simp [Lit.wf, IntKind.min, IntKind.max, IntKind.signed, IntKind.bits] at hn; omega, rfl⟩
theorem opens_ints {t e : TypeId} (ht : P.underlying t = some (.slice e)) (he : P.underlying e = some (.int .i64)) (hc : P.cellsOf e = 1) : Opens P t (fun l : List Int => [.sl false (ints l)]) (fun l => l.length ≤ 9223372036854775807 ∧ ∀ n ∈ l, -9223372036854775808 ≤ n ∧ n ≤ 9223372036854775807) :=
  opens_map (opens_slice ht (opens_i64 he) (fun _ => hc.symm) (by omega)) fun l hl => ⟨l, hl, rfl⟩
end
section
variable {P : Program}
theorem opens_cell {t : TypeId} {α : Type} {enc : α → D} {ok : α → Prop} (h : Opens P t (fun a => [enc a]) ok) {H : Type} {encH : TypeId × Value → H} {w : World} {fuel : Nat} {cs : List Value} {off : Nat} {y : DataW H × List MemPlace}
    (hl : off < cs.length) (hx : DataW.trod encH P w 0 (fun _ => true) true fuel t ((cs.drop off).take 1) = some y) : ∃ a, ok a ∧ ∃ v, cs[off]? = some v ∧ Rep (immOf w) noLocs (enc a) v ∧ v.oneCell' = true := by
  obtain ⟨a, g1, g2, g3⟩ := h H encH w fuel _ _ hx
  have hv : cs[off]? = some (cs[off]'hl) := List.getElem?_eq_getElem hl
  have h2 : ((cs.drop off).take 1)[0]? = some (cs[off]'hl) := by
    rw [List.getElem?_take, if_pos (by decide), List.getElem?_drop]
    exact hv
  have := g3 0 (enc a) _ rfl h2
  exact ⟨a, g1, _, hv, this.1, this.2⟩
theorem opens_arr {t e : TypeId} {n : Nat} {α : Type} {enc : α → D} {ok : α → Prop} (ht : P.underlying t = some (.array n e)) (hc : P.cellsOf e = 1) (hct : P.cellsOf t = n) (he : Opens P e (fun a => [enc a]) ok) :
    Opens P t (fun l : List α => l.map enc) (fun l => l.length = n ∧ ∀ a ∈ l, ok a) := by
  intro H encH w fuel cs x hx
  obtain ⟨xs, m, rfl, rfl, hl, hlen, h⟩ := DataW.trod_array ht hx
  rw [hct] at hl
  have key : ∀ i, i < n → ∃ a, ok a ∧ ∃ v, cs[i]? = some v ∧ Rep (immOf w) noLocs (enc a) v ∧ v.oneCell' = true := by
    intro i hi
    have h1 := h i hi
    rw [hc, Nat.mul_one, List.getElem?_eq_getElem (by omega)] at h1
    exact opens_cell he (by omega) h1
  obtain ⟨l, hll, hlp⟩ := choose_list key
  refine ⟨l, ⟨hll, fun a ha => ?_⟩, by simp; omega, fun i d v q1 q2 => ?_⟩
  · obtain ⟨i, hi⟩ := List.getElem?_of_mem ha
    exact (hlp i a hi).1
  · rw [List.getElem?_map] at q1
    cases hq : l[i]? with
    | none => simp [hq] at q1
    | some a =>
      simp [hq] at q1
      subst q1
      obtain ⟨_, v', hv', r⟩ := hlp i a hq
      rw [hv'] at q2; cases q2
      exact r
theorem opens_arr3i {t e : TypeId} (ht : P.underlying t = some (.array 3 e)) (hc : P.cellsOf e = 1) (hct : P.cellsOf t = 3) (he : P.underlying e = some (.int .i64)) :
    Opens P t (fun x : Int × Int × Int => [i64 x.1, i64 x.2.1, i64 x.2.2]) (fun x => (-9223372036854775808 ≤ x.1 ∧ x.1 ≤ 9223372036854775807) ∧ (-9223372036854775808 ≤ x.2.1 ∧ x.2.1 ≤ 9223372036854775807) ∧ (-9223372036854775808 ≤ x.2.2 ∧ x.2.2 ≤ 9223372036854775807)) :=
  opens_map (opens_arr ht hc hct (opens_i64 he)) fun l hl => by
    obtain ⟨h1, h2⟩ := hl
    match l, h1 with
    | [a, b, c], _ => exact ⟨(a, b, c), ⟨h2 a (by simp), h2 b (by simp), h2 c (by simp)⟩, rfl⟩
end
section
variable {P : Program}
end
def swp1 (N : List (List Int)) (o : List Bool) (i : Nat) : List Bool := if ((N.getD i []).any fun s => decide (s ≥ 0) && o.getD s.toNat false) = true then o.set i true else o
def swpS (N : List (List Int)) (o : List Bool) : Nat → List Bool
  | 0 => o
  | i + 1 => swp1 N (swpS N o i) i
def swp (N : List (List Int)) (o : List Bool) : List Bool := swpS N o N.length
def swpI (N : List (List Int)) (o : List Bool) : Nat → List Bool
  | 0 => o
  | r + 1 => swp N (swpI N o r)
def liveL (F : List Bool) (N : List (List Int)) : List Bool := swpI N F F.length
theorem swp1_len (N : List (List Int)) (o : List Bool) (i : Nat) : (swp1 N o i).length = o.length := by
  unfold swp1; split <;> simp
theorem swpS_len (N : List (List Int)) (o : List Bool) : ∀ i, (swpS N o i).length = o.length
  | 0 => rfl
  | i + 1 => by rw [swpS, swp1_len, swpS_len N o i]
theorem swp_len (N : List (List Int)) (o : List Bool) : (swp N o).length = o.length := swpS_len N o _
theorem swpI_len (N : List (List Int)) (o : List Bool) : ∀ r, (swpI N o r).length = o.length
  | 0 => rfl
  | r + 1 => by rw [swpI, swp_len, swpI_len N o r]
def bleB (o p : List Bool) : Prop := o.length = p.length ∧ ∀ j, o.getD j false = true → p.getD j false = true
theorem bleB_refl (o : List Bool) : bleB o o := ⟨rfl, fun _ h => h⟩
theorem bleB_trans {o p q : List Bool} (h : bleB o p) (k : bleB p q) : bleB o q := ⟨h.1.trans k.1, fun j g => k.2 j (h.2 j g)⟩
theorem set_ble (o : List Bool) (i : Nat) : bleB o (o.set i true) := by
  refine ⟨by simp, fun j h => ?_⟩
  simp only [List.getD, List.getElem?_set] at h ⊢
  split
  · split
    · rfl
    · rename_i h1 h2
      rw [List.getElem?_eq_none (by omega)] at h; cases h
  · exact h
theorem swp1_ble (N : List (List Int)) (o : List Bool) (i : Nat) : bleB o (swp1 N o i) := by
  unfold swp1; split
  · exact set_ble o i
  · exact bleB_refl o
theorem swpS_ble (N : List (List Int)) (o : List Bool) : ∀ i, bleB o (swpS N o i)
  | 0 => bleB_refl o
  | i + 1 => bleB_trans (swpS_ble N o i) (swp1_ble N _ i)
theorem swp_ble (N : List (List Int)) (o : List Bool) : bleB o (swp N o) := swpS_ble N o _
theorem swpI_ble (N : List (List Int)) (o : List Bool) : ∀ r, bleB o (swpI N o r)
  | 0 => bleB_refl o
  | r + 1 => bleB_trans (swpI_ble N o r) (swp_ble N _)
theorem ble_count : ∀ {o p : List Bool}, bleB o p → o.count true ≤ p.count true ∧ (o.count true = p.count true → o = p)
  | [], [], _ => ⟨Nat.le_refl _, fun _ => rfl⟩
  | [], _ :: _, h => by have := h.1; simp at this
  | _ :: _, [], h => by have := h.1; simp at this
  | a :: o, b :: p, h => by
    have h1 : bleB o p := ⟨by have := h.1; simpa using this, fun j g => by have := h.2 (j + 1); simpa using this (by simpa using g)⟩
    obtain ⟨g1, g2⟩ := ble_count h1
    have h0 : a = true → b = true := by have := h.2 0; simpa using this
    cases a <;> cases b
    · simp only [List.count_cons]; refine ⟨by simpa using g1, fun e => ?_⟩
      rw [g2 (by simpa using e)]
    · simp only [List.count_cons]
      refine ⟨by simp; omega, fun e => ?_⟩
      simp at e; omega
    · cases h0 rfl
    · simp only [List.count_cons]; refine ⟨by simpa using g1, fun e => ?_⟩
      rw [g2 (by simpa using e)]
theorem swpI_stable {N : List (List Int)} {o : List Bool} {r : Nat} (h : swp N (swpI N o r) = swpI N o r) : ∀ k, swpI N o (r + k) = swpI N o r
  | 0 => rfl
  | k + 1 => by rw [← Nat.add_assoc, swpI, swpI_stable h k, h]
theorem swpI_grows {N : List (List Int)} {o : List Bool} : ∀ r, (∃ q, q ≤ r ∧ swp N (swpI N o q) = swpI N o q) ∨ r + 1 ≤ (swpI N o (r + 1)).count true
  | 0 => by
    by_cases h : swp N (swpI N o 0) = swpI N o 0
    · exact .inl ⟨0, Nat.le_refl _, h⟩
    · right
      have hb := ble_count (swp_ble N (swpI N o 0))
      have : (swpI N o 0).count true ≠ (swp N (swpI N o 0)).count true := fun e => h (hb.2 e).symm
      have e : swpI N o (0 + 1) = swp N (swpI N o 0) := rfl
      rw [e]; omega
  | r + 1 => by
    rcases swpI_grows (N := N) (o := o) r with ⟨q, h1, h2⟩ | h
    · exact .inl ⟨q, by omega, h2⟩
    · by_cases hs : swp N (swpI N o (r + 1)) = swpI N o (r + 1)
      · exact .inl ⟨r + 1, Nat.le_refl _, hs⟩
      · right
        have hb := ble_count (swp_ble N (swpI N o (r + 1)))
        have : (swpI N o (r + 1)).count true ≠ (swp N (swpI N o (r + 1))).count true := fun e => hs (hb.2 e).symm
        have e : swpI N o (r + 1 + 1) = swp N (swpI N o (r + 1)) := rfl
        rw [e]; omega
theorem liveL_stable (F : List Bool) (N : List (List Int)) : swp N (liveL F N) = liveL F N := by
  have key : ∃ q, q ≤ F.length ∧ swp N (swpI N F q) = swpI N F q := by
    rcases swpI_grows (N := N) (o := F) F.length with h | h
    · exact h
    · exfalso
      have h1 := List.count_le_length (a := true) (l := swpI N F (F.length + 1))
      rw [swpI_len] at h1; omega
  obtain ⟨q, h1, h2⟩ := key
  have := swpI_stable h2 (F.length - q)
  rw [show q + (F.length - q) = F.length by omega] at this
  unfold liveL
  rw [this]; exact h2
theorem liveL_of {F : List Bool} {N : List (List Int)} {r : Nat} (h : swp N (swpI N F r) = swpI N F r) : swpI N F r = liveL F N := by
  have h2 := liveL_stable F N
  rcases Nat.le_total r F.length with q | q
  · have := swpI_stable h (F.length - r)
    rw [show r + (F.length - r) = F.length by omega] at this
    exact this.symm
  · have := swpI_stable (r := F.length) h2 (r - F.length)
    rw [show F.length + (r - F.length) = r by omega] at this
    exact this
theorem liveL_len (F : List Bool) (N : List (List Int)) : (liveL F N).length = F.length := swpI_len N F _
theorem liveL_fin {F : List Bool} {N : List (List Int)} {s : Nat} (h : F.getD s false = true) : (liveL F N).getD s false = true := (swpI_ble N F _).2 s h
theorem swpS_eq {N : List (List Int)} {o : List Bool} (h : swp N o = o) : ∀ i, i ≤ N.length → swpS N o i = o := by
  intro i hi
  have h1 : bleB o (swpS N o i) := swpS_ble N o i
  have h2 : ∀ k, bleB (swpS N o i) (swpS N o (i + k)) := fun k => by
    induction k with
    | zero => exact bleB_refl _
    | succ k ih => exact bleB_trans ih (swp1_ble N _ _)
  have h3 := h2 (N.length - i)
  rw [show i + (N.length - i) = N.length by omega, show swpS N o N.length = o from h] at h3
  have c1 := ble_count h1
  have c2 := ble_count h3
  exact (c1.2 (by omega)).symm
theorem liveL_step {F : List Bool} {N : List (List Int)} {s : Nat} {t : Int} (hs : s < N.length) (hl : N.length = F.length) (hm : t ∈ N.getD s []) (h0 : 0 ≤ t) (ht : (liveL F N).getD t.toNat false = true) : (liveL F N).getD s false = true := by
  have h1 := swpS_eq (liveL_stable F N) s (by omega)
  have h2 := swpS_eq (liveL_stable F N) (s + 1) (by omega)
  rw [swpS, h1, swp1, if_pos (by rw [List.any_eq_true]; exact ⟨t, hm, by rw [ht, Bool.and_true]; simpa using h0⟩)] at h2
  rw [← h2]
  have hsl : s < (liveL F N).length := by rw [liveL_len]; omega
  simp [List.getD, List.getElem?_set, hsl]
inductive Lv (F : List Bool) (N : List (List Int)) : Nat → Prop
  | fin {s : Nat} (h : F.getD s false = true) : Lv F N s
  | step {s : Nat} {t : Int} (hm : t ∈ N.getD s []) (h0 : 0 ≤ t) (h : Lv F N t.toNat) : Lv F N s
theorem swp1_lv {F : List Bool} {N : List (List Int)} {o : List Bool} {i : Nat} (h : ∀ j, o.getD j false = true → Lv F N j) : ∀ j, (swp1 N o i).getD j false = true → Lv F N j := by
  intro j hj
  unfold swp1 at hj
  split at hj
  · rename_i ha
    by_cases hij : i = j
    · subst hij
      obtain ⟨t, ht, hp⟩ := List.any_eq_true.1 ha
      simp only [Bool.and_eq_true, decide_eq_true_eq] at hp
      exact .step ht hp.1 (h _ hp.2)
    · simp only [List.getD, List.getElem?_set_ne hij] at hj
      exact h j hj
  · exact h j hj
theorem swpS_lv {F : List Bool} {N : List (List Int)} {o : List Bool} (h : ∀ j, o.getD j false = true → Lv F N j) : ∀ i j, (swpS N o i).getD j false = true → Lv F N j
  | 0 => h
  | i + 1 => swp1_lv (swpS_lv h i)
theorem swpI_lv {F : List Bool} {N : List (List Int)} : ∀ r j, (swpI N F r).getD j false = true → Lv F N j
  | 0 => fun _ h => .fin h
  | r + 1 => swpS_lv (swpI_lv r) _
theorem liveL_lv {F : List Bool} {N : List (List Int)} {s : Nat} (h : (liveL F N).getD s false = true) : Lv F N s := swpI_lv _ s h
def lowB (m : Nat) (c : Int) : Nat := (BitVec.ofInt IntKind.i64.bits c &&& BitVec.ofInt IntKind.i64.bits (m : Int)).toNat
theorem lowB_le (m : Nat) (c : Int) (hm : m ≤ 2147483647) : lowB m c ≤ m := by
  rw [lowB, BitVec.toNat_and]
  refine Nat.le_trans Nat.and_le_right ?_
  simp only [BitVec.toNat_ofInt]
  have : ((m : Int) % ((2 ^ IntKind.i64.bits : Nat) : Int)).toNat = m % 2 ^ IntKind.i64.bits := by
    rw [← Int.natCast_emod]; rfl
  rw [this]
  exact Nat.mod_le _ _
theorem lowB_wrap (m : Nat) (c : Int) (hm : m ≤ 2147483647) : IntKind.i64.wrap ((BitVec.ofInt IntKind.i64.bits c &&& BitVec.ofInt IntKind.i64.bits (m : Int)).toNat : Int) = (lowB m c : Int) := by
  have h := lowB_le m c hm
  exact i64_in (by omega) (by unfold lowB at h; omega)
theorem lowW1 (c : Int) : IntKind.i64.wrap ((BitVec.ofInt IntKind.i64.bits c &&& BitVec.ofInt IntKind.i64.bits 1).toNat : Int) = (lowB 1 c : Int) := lowB_wrap 1 c (by decide)
theorem lowW3 (c : Int) : IntKind.i64.wrap ((BitVec.ofInt IntKind.i64.bits c &&& BitVec.ofInt IntKind.i64.bits 3).toNat : Int) = (lowB 3 c : Int) := lowB_wrap 3 c (by decide)
theorem lowW7 (c : Int) : IntKind.i64.wrap ((BitVec.ofInt IntKind.i64.bits c &&& BitVec.ofInt IntKind.i64.bits 7).toNat : Int) = (lowB 7 c : Int) := lowB_wrap 7 c (by decide)
theorem lowW255 (c : Int) : IntKind.i64.wrap ((BitVec.ofInt IntKind.i64.bits c &&& BitVec.ofInt IntKind.i64.bits 255).toNat : Int) = (lowB 255 c : Int) := lowB_wrap 255 c (by decide)
theorem tmodN (a b : Nat) : Int.tmod (a : Int) (b : Int) = ((a % b : Nat) : Int) := rfl
def iis (l : List (List Int)) : List (List D) := l.map fun x => [.sl false (ints x)]
theorem iis_len (l : List (List Int)) : (iis l).length = l.length := by simp [iis]
theorem iis_row (l : List (List Int)) : (∀ row ∈ iis l, row.length = 1) = True := by simp [iis]
theorem iis_get {l : List (List Int)} {i : Nat} (h : i < l.length) : (iis l).getD i [] = [.sl false (ints (l.getD i []))] := by
  simp [iis, List.getD, List.getElem?_eq_getElem h]
theorem iis_app (l m : List (List Int)) : iis l ++ iis m = iis (l ++ m) := by simp [iis]
theorem iis_take (l : List (List Int)) (k : Nat) : (iis l).take k = iis (l.take k) := by simp [iis]
theorem iis_one (z : List Int) : [[D.sl false (ints z)]] = iis [z] := rfl
def bos (l : List Bool) : List (List D) := l.map fun b => [bo b]
theorem bos_len (l : List Bool) : (bos l).length = l.length := by simp [bos]
theorem bos_row (l : List Bool) : (∀ row ∈ bos l, row.length = 1) = True := by
  simp only [bos, List.mem_map, eq_iff_iff, iff_true]
  rintro row ⟨x, _, rfl⟩; rfl
theorem bos_get {l : List Bool} {i : Nat} (h : i < l.length) : (bos l).getD i [] = [bo (l.getD i false)] := by
  simp [bos, List.getD, List.getElem?_eq_getElem h]
theorem bos_app (l m : List Bool) : bos l ++ bos m = bos (l ++ m) := by simp [bos]
theorem bos_take (l : List Bool) (k : Nat) : (bos l).take k = bos (l.take k) := by simp [bos]
theorem bos_one (b : Bool) : [[bo b]] = bos [b] := rfl
theorem bos_set (l : List Bool) (j : Nat) (b : Bool) : (bos l).set j [bo b] = bos (l.set j b) := by simp [bos]
theorem bos_nil (l : List Bool) : (bos l = []) = (l = []) := by simp [bos]
def labD (z : Int) : Nat := lowB 3 z + lowB 1 (z.fdiv (2 ^ min 2 IntKind.i64.bits))
def numD (z : Int) : Nat := lowB 7 z + 1
def startD (z : Int) : Nat := lowB 255 (z.fdiv (2 ^ min 3 IntKind.i64.bits)) % numD z
theorem labD_le (z : Int) : labD z ≤ 4 := by
  have h1 := lowB_le 3 z (by decide)
  have h2 := lowB_le 1 (z.fdiv (2 ^ min 2 IntKind.i64.bits)) (by decide)
  unfold labD; omega
theorem numD_le (z : Int) : 1 ≤ numD z ∧ numD z ≤ 8 := by
  have h1 := lowB_le 7 z (by decide)
  unfold numD; omega
theorem startD_lt (z : Int) : startD z < numD z := Nat.mod_lt _ (by have := numD_le z; omega)
def finD (f : Int) (n : Nat) : List Bool := (List.range n).map fun i => ((lowB 1 (f.fdiv (2 ^ min i IntKind.i64.bits)) : Int) == 1)
theorem finD_len (f : Int) (n : Nat) : (finD f n).length = n := by simp [finD]
theorem finD_succ (f : Int) (n : Nat) : finD f (n + 1) = finD f n ++ [((lowB 1 (f.fdiv (2 ^ min n IntKind.i64.bits)) : Int) == 1)] := by simp [finD, List.range_succ]
def negs (n : Nat) : List Int := List.replicate n (-1)
def nx0 (L n : Nat) : List (List Int) := List.replicate n (negs L)
def setN (N : List (List Int)) (f c : Nat) (t : Int) : List (List Int) := N.set f ((N.getD f []).set c t)
def mvF (k : Nat) (x : Int × Int × Int) : Nat := lowB 255 x.1 % k
def mvT (k : Nat) (x : Int × Int × Int) : Nat := lowB 255 x.2.1 % k
def mvC (L : Nat) (x : Int × Int × Int) : Nat := lowB 255 x.2.2 % L
def nxD (L k : Nat) (l : List (Int × Int × Int)) : Nat → List (List Int)
  | 0 => nx0 L k
  | i + 1 => setN (nxD L k l i) (mvF k (l.getD i (0, 0, 0))) (mvC L (l.getD i (0, 0, 0))) (mvT k (l.getD i (0, 0, 0)))
structure NOk (L k : Nat) (N : List (List Int)) : Prop where
  len : N.length = k
  row : ∀ r ∈ N, r.length = L ∧ ∀ t ∈ r, -1 ≤ t ∧ t < (k : Int)
theorem NOk.get {L k : Nat} {N : List (List Int)} (h : NOk L k N) {s : Nat} (hs : s < k) : (N.getD s []).length = L ∧ ∀ t ∈ N.getD s [], -1 ≤ t ∧ t < (k : Int) := by
  have hl := h.len
  have e : N.getD s [] = N[s]'(by omega) := by simp [List.getD, List.getElem?_eq_getElem (show s < N.length by omega)]
  rw [e]; exact h.row _ (List.getElem_mem _)
theorem nx0_ok (L : Nat) {k : Nat} (hk : 1 ≤ k) : NOk L k (nx0 L k) := by
  refine ⟨by simp [nx0], fun r hr => ?_⟩
  rw [List.eq_of_mem_replicate hr]
  refine ⟨by simp [negs], fun t ht => ?_⟩
  rw [List.eq_of_mem_replicate ht]; omega
theorem setN_ok {L k : Nat} {N : List (List Int)} (h : NOk L k N) {f c t : Nat} (hf : f < k) (ht : t < k) : NOk L k (setN N f c t) := by
  refine ⟨by simp [setN, h.len], fun r hr => ?_⟩
  rcases List.mem_or_eq_of_mem_set hr with q | q
  · exact h.row r q
  · obtain ⟨g1, g2⟩ := h.get hf
    rw [q]
    refine ⟨by simpa using g1, fun u hu => ?_⟩
    rcases List.mem_or_eq_of_mem_set hu with q2 | q2
    · exact g2 u q2
    · rw [q2]; omega
theorem nxD_ok {L k : Nat} (hk : 1 ≤ k) (l : List (Int × Int × Int)) : ∀ i, NOk L k (nxD L k l i)
  | 0 => nx0_ok L hk
  | i + 1 => setN_ok (nxD_ok hk l i) (Nat.mod_lt _ hk) (Nat.mod_lt _ hk)
def nextD (L k : Nat) (l : List (Int × Int × Int)) : List (List Int) := nxD L k l (if L = 0 then 0 else min l.length 24)
theorem nextD_ok {L k : Nat} (hk : 1 ≤ k) (l : List (Int × Int × Int)) : NOk L k (nextD L k l) := nxD_ok hk l _
def toD (N : List (List Int)) (s k : Int) : Int := if s < 0 ∨ (N.length : Int) ≤ s ∨ k < 0 ∨ ((N.getD s.toNat []).length : Int) ≤ k then -1 else (N.getD s.toNat []).getD k.toNat 0
def runD (N : List (List Int)) : Int → List Int → Int
  | s, [] => s
  | s, k :: w => if s < 0 then s else runD N (toD N s k) w
def endsD (F : List Bool) (N : List (List Int)) (s : Int) (w : List Int) : Bool := decide (0 ≤ runD N s w) && F.getD (runD N s w).toNat false
theorem toD_ok {L k : Nat} {N : List (List Int)} (h : NOk L k N) (s c : Int) : -1 ≤ toD N s c ∧ toD N s c < (k : Int) ∨ toD N s c = -1 := by
  unfold toD
  split
  · exact .inr rfl
  · rename_i hn
    have hl := h.len
    have hs : s.toNat < k := by omega
    obtain ⟨g1, g2⟩ := h.get hs
    have hc : c.toNat < (N.getD s.toNat []).length := by omega
    left
    have e : (N.getD s.toNat []).getD c.toNat 0 = (N.getD s.toNat [])[c.toNat] := by
      generalize N.getD s.toNat [] = r at hc ⊢
      simp [List.getD, List.getElem?_eq_getElem hc]
    rw [e]; exact g2 _ (List.getElem_mem _)
theorem toD_mem {N : List (List Int)} {s k : Int} (h : 0 ≤ toD N s k) : 0 ≤ s ∧ s.toNat < N.length ∧ toD N s k ∈ N.getD s.toNat [] := by
  unfold toD at h ⊢
  split at h
  · omega
  · rename_i hn
    refine ⟨by omega, by omega, ?_⟩
    rw [if_neg hn]
    have hc : k.toNat < (N.getD s.toNat []).length := by omega
    generalize N.getD s.toNat [] = r at hc ⊢
    simp [List.getD, List.getElem?_eq_getElem hc]
theorem toD_of {N : List (List Int)} {s : Nat} {t : Int} (hs : s < N.length) (ht : t ∈ N.getD s []) : ∃ k : Nat, k < (N.getD s []).length ∧ toD N s k = t := by
  obtain ⟨k, hk, rfl⟩ := List.getElem_of_mem ht
  refine ⟨k, hk, ?_⟩
  unfold toD
  rw [if_neg (by rw [Int.toNat_natCast]; omega), Int.toNat_natCast, Int.toNat_natCast]
  generalize N.getD s [] = r at hk ⊢
  simp [List.getD, List.getElem?_eq_getElem hk]
theorem runD_neg {N : List (List Int)} : ∀ {w : List Int} {s : Int}, s < 0 → runD N s w = s
  | [], s, _ => rfl
  | k :: w, s, h => by rw [runD, if_pos h]
theorem lv_of_run {F : List Bool} {N : List (List Int)} : ∀ {w : List Int} {s : Int}, 0 ≤ s → endsD F N s w = true → Lv F N s.toNat
  | [], s, h0, h => by
    simp only [endsD, runD, Bool.and_eq_true] at h
    exact .fin h.2
  | k :: w, s, h0, h => by
    have hr : runD N s (k :: w) = runD N (toD N s k) w := by rw [runD, if_neg (by omega)]
    have h' : endsD F N (toD N s k) w = true := by unfold endsD at h ⊢; rw [hr] at h; exact h
    have ht : 0 ≤ toD N s k := by
      rcases Int.lt_or_le (toD N s k) 0 with q | q
      · simp only [endsD, runD_neg q, Bool.and_eq_true, decide_eq_true_eq] at h'
        omega
      · exact q
    exact .step (toD_mem ht).2.2 ht (lv_of_run ht h')
theorem run_of_lv {F : List Bool} {N : List (List Int)} (hl : F.length ≤ N.length) {s : Nat} (h : Lv F N s) : ∃ w, endsD F N s w = true := by
  induction h with
  | @fin s h => exact ⟨[], by simp only [endsD, runD, Int.toNat_natCast, h, Bool.and_true]; simp⟩
  | @step s t hm h0 h ih =>
    obtain ⟨w, hw⟩ := ih
    have hs : s < N.length := by
      rcases Nat.lt_or_ge s N.length with q | q
      · exact q
      · simp [List.getD, List.getElem?_eq_none q] at hm
    obtain ⟨k, _, hk⟩ := toD_of hs hm
    refine ⟨(k : Int) :: w, ?_⟩
    rw [show ((t.toNat : Nat) : Int) = t by omega] at hw
    unfold endsD at hw ⊢
    rw [runD, if_neg (by omega), hk]
    exact hw
theorem live_iff {F : List Bool} {N : List (List Int)} (hl : F.length = N.length) (hb : ∀ s, ∀ t ∈ N.getD s [], t < (N.length : Int)) {s : Nat} (hs : s < N.length) : (liveL F N).getD s false = true ↔ Lv F N s := by
  refine ⟨liveL_lv, fun h => ?_⟩
  induction h with
  | @fin s h => exact liveL_fin h
  | @step s t hm h0 h ih =>
    have := hb s t hm
    exact liveL_step hs hl.symm hm h0 (ih (by omega))
def fam (n : Nat) (g : Nat → AObj) : List (Nat × AObj) := (List.range n).map fun r => (r + 90000, g r)
def ownRows (n L : Nat) : List (List D) := (List.range n).map fun r => [D.own (r + 90000) 0 L]
theorem lk_none {α : Type} : ∀ {l : List (Nat × α)} {t : Nat}, (∀ x ∈ l, x.1 ≠ t) → lk l t = none
  | [], t, _ => rfl
  | (k, d) :: l, t, h => by
    rw [lk, if_neg (fun e => h (k, d) (by simp) e.symm)]
    exact lk_none fun x hx => h x (by simp [hx])
theorem lk_app {α : Type} : ∀ {l m : List (Nat × α)} {t : Nat}, lk (l ++ m) t = (match lk l t with | some d => some d | none => lk m t)
  | [], m, t => by simp [lk]
  | (k, d) :: l, m, t => by
    rw [List.cons_append, lk, lk]
    split
    · rfl
    · exact lk_app
theorem lk_fam {n : Nat} {g : Nat → AObj} {f : Nat} (h : f < n) : lk (fam n g) (f + 90000) = some (g f) := by
  induction n with
  | zero => omega
  | succ n ih =>
    rw [fam, List.range_succ, List.map_append, ← fam, lk_app]
    rcases Nat.lt_or_ge f n with q | q
    · rw [ih q]
    · have : f = n := by omega
      subst this
      rw [lk_none (by intro x hx; obtain ⟨r, hr, rfl⟩ := List.mem_map.1 hx; have := List.mem_range.1 hr; simp; omega)]
      simp [lk]
theorem lk_famO {n : Nat} {g : Nat → AObj} : lk (fam n g) (n + 90000) = none :=
  lk_none (by intro x hx; obtain ⟨r, hr, rfl⟩ := List.mem_map.1 hx; have := List.mem_range.1 hr; simp; omega)
theorem knowsH_app {st : St} : ∀ {l m : List (Nat × AObj)}, KnowsH st (l ++ m) = (KnowsH st l ∧ KnowsH st m)
  | [], m => by simp [KnowsH]
  | (k, d) :: l, m => by rw [List.cons_append, KnowsH, KnowsH, knowsH_app, and_assoc]
theorem knowsH_iff {st : St} : ∀ {l : List (Nat × AObj)}, KnowsH st l ↔ ∀ x ∈ l, st.heap x.1 = some x.2
  | [] => by simp [KnowsH]
  | (k, d) :: l => by simp [KnowsH, knowsH_iff]
theorem knowsH_fam {st : St} {n : Nat} {g : Nat → AObj} : KnowsH st (fam n g) = ∀ r, r < n → st.heap (r + 90000) = some (g r) := by
  rw [eq_iff_iff, knowsH_iff]
  simp [fam]
theorem ownRows_len (n L : Nat) : (ownRows n L).length = n := by simp [ownRows]
theorem ownRows_get {n L f : Nat} (h : f < n) : (ownRows n L).getD f [] = [D.own (f + 90000) 0 L] := by simp [ownRows, List.getD, h]
theorem ownRows_app (n L : Nat) : ownRows n L ++ [[D.own (n + 90000) 0 L]] = ownRows (n + 1) L := by simp [ownRows, List.range_succ]
theorem ownRows_take (n L : Nat) : (ownRows n L).take n = ownRows n L := List.take_of_length_le (by simp [ownRows])
theorem ownRows_row (n L : Nat) : (∀ row ∈ ownRows n L, row.length = 1) = True := by simp [ownRows]
theorem ownRows_kill {n L k : Nat} (h : decide (k < 90000) = true) : (ownRows n L).map (D.killL k) = ownRows n L := by
  have := of_decide_eq_true h
  simp only [ownRows, List.map_map]
  apply List.map_congr_left
  intro r _
  simp only [Function.comp, D.killL, D.kill]
  rw [if_neg (by omega)]
theorem ownRows_killB {n L k : Nat} (hn : n ≤ 1000000) (h : 50000000 ≤ k) : (ownRows n L).map (D.killL k) = ownRows n L := by
  simp only [ownRows, List.map_map]
  apply List.map_congr_left
  intro r hr
  have := List.mem_range.1 hr
  simp only [Function.comp, D.killL, D.kill]
  rw [if_neg (by omega)]
theorem ownRows_killO {n L : Nat} : (ownRows n L).map (D.killL (n + 90000)) = ownRows n L := by
  simp only [ownRows, List.map_map]
  apply List.map_congr_left
  intro r hr
  have := List.mem_range.1 hr
  simp only [Function.comp, D.killL, D.kill]
  rw [if_neg (by omega)]
theorem purLL_own {h : Nat → Option AObj} {L : Nat} {g : Nat → AObj} : ∀ (l : List Nat), (∀ r ∈ l, h (r + 90000) = some (g r) ∧ (g r).flat = true ∧ (g r).rows.length = L) →
    ∃ p, purLL (pur h 4) (l.map fun r => [D.own (r + 90000) 0 L]) = some (l.map (· + 90000), p, l.map fun r => [D.sl false (g r).rows]) ∧ p
  | [], _ => ⟨True, rfl, trivial⟩
  | r :: l, hg => by
    obtain ⟨p, e, hp⟩ := purLL_own (h := h) (L := L) (g := g) l fun r hr => hg r (by simp [hr])
    obtain ⟨h1, h2, h3⟩ := hg r (by simp)
    refine ⟨((0 + L ≤ (g r).rows.length) ∧ True) ∧ p, ?_, ⟨⟨by omega, trivial⟩, hp⟩⟩
    rw [List.map_cons, purLL, e]
    simp only [purL, pur, purB, h1, h2, if_true, List.nil_append, List.cons_append, List.map_cons, List.append_nil, List.drop_zero, List.take_of_length_le (Nat.le_of_eq h3)]
theorem map90000_has {l : List Nat} {k : Nat} (h : decide (k < 90000) = true) : (l.map (· + 90000)).contains k = false := by
  have := of_decide_eq_true h
  simp only [List.contains_eq_mem, List.mem_map, decide_eq_false_iff_not]
  rintro ⟨r, _, q⟩; omega
def tri (l : List (Int × Int × Int)) : List (List D) := l.map fun x => [i64 x.1, i64 x.2.1, i64 x.2.2]
theorem tri_len (l : List (Int × Int × Int)) : (tri l).length = l.length := by simp [tri]
theorem tri_get {l : List (Int × Int × Int)} {i : Nat} (h : i < l.length) : (tri l).getD i [] = [i64 (l.getD i (0, 0, 0)).1, i64 (l.getD i (0, 0, 0)).2.1, i64 (l.getD i (0, 0, 0)).2.2] := by
  simp [tri, List.getD, List.getElem?_eq_getElem h]
theorem tri_take (l : List (Int × Int × Int)) (k : Nat) : (tri l).take k = tri (l.take k) := by simp [tri]
def mvs (l : List (Int × Int)) : List (List D) := l.map fun x => [i64 x.1, i64 x.2]
theorem mvs_len (l : List (Int × Int)) : (mvs l).length = l.length := by simp [mvs]
theorem mvs_get {l : List (Int × Int)} {i : Nat} (h : i < l.length) : (mvs l).getD i [] = [i64 (l.getD i (0, 0)).1, i64 (l.getD i (0, 0)).2] := by
  simp [mvs, List.getD, List.getElem?_eq_getElem h]
theorem mvs_take (l : List (Int × Int)) (k : Nat) : (mvs l).take k = mvs (l.take k) := by simp [mvs]
theorem mvs_snoc (l : List (Int × Int)) (a b : Int) : mvs l ++ [[i64 a, i64 b]] = mvs (l ++ [(a, b)]) := by simp [mvs]
def mmv (M : List (List (Int × Int))) : List (List D) := M.map fun r => [.sl false (mvs r)]
theorem mmv_len (M : List (List (Int × Int))) : (mmv M).length = M.length := by simp [mmv]
theorem mmv_get {M : List (List (Int × Int))} {i : Nat} (h : i < M.length) : (mmv M).getD i [] = [.sl false (mvs (M.getD i []))] := by
  simp [mmv, List.getD, List.getElem?_eq_getElem h]
theorem mmv_take (M : List (List (Int × Int))) (k : Nat) : (mmv M).take k = mmv (M.take k) := by simp [mmv]
def nfaD (L s : Nat) (F : List Bool) (M : List (List (Int × Int))) : D := .agg [i64 L, i64 s, .sl false (bos F), .sl false (mmv M)]
structure MOk (L k : Nat) (M : List (List (Int × Int))) : Prop where
  len : M.length = k
  row : ∀ r ∈ M, ∀ x ∈ r, -1 ≤ x.1 ∧ x.1 < (L : Int) ∧ 0 ≤ x.2 ∧ x.2 < (k : Int)
theorem MOk.get {L k : Nat} {M : List (List (Int × Int))} (h : MOk L k M) (s : Nat) : ∀ x ∈ M.getD s [], -1 ≤ x.1 ∧ x.1 < (L : Int) ∧ 0 ≤ x.2 ∧ x.2 < (k : Int) := by
  intro x hx
  rcases Nat.lt_or_ge s M.length with q | q
  · have e : M.getD s [] = M[s] := by simp [List.getD, List.getElem?_eq_getElem q]
    rw [e] at hx
    exact h.row _ (List.getElem_mem _) x hx
  · simp [List.getD, List.getElem?_eq_none q] at hx
def ownRowsV (n : Nat) (g : Nat → Nat) : List (List D) := (List.range n).map fun r => [D.own (r + 90000) 0 (g r)]
theorem ownRowsV_len (n : Nat) (g : Nat → Nat) : (ownRowsV n g).length = n := by simp [ownRowsV]
theorem ownRowsV_row (n : Nat) (g : Nat → Nat) : (∀ row ∈ ownRowsV n g, row.length = 1) = True := by simp [ownRowsV]
theorem ownRowsV_kill {n k : Nat} {g : Nat → Nat} (h : decide (k < 90000) = true) : (ownRowsV n g).map (D.killL k) = ownRowsV n g := by
  have := of_decide_eq_true h
  simp only [ownRowsV, List.map_map]
  apply List.map_congr_left
  intro r hr
  simp only [Function.comp, D.killL, D.kill]
  rw [if_neg (by omega)]
theorem ownRowsV_killB {n k : Nat} {g : Nat → Nat} (hn : n ≤ 10000) (h : decide (10000 + 90000 ≤ k) = true) : (ownRowsV n g).map (D.killL k) = ownRowsV n g := by
  have := of_decide_eq_true h
  simp only [ownRowsV, List.map_map]
  apply List.map_congr_left
  intro r hr
  have := List.mem_range.1 hr
  simp only [Function.comp, D.killL, D.kill]
  rw [if_neg (by omega)]
section
variable {P : Program} {E : Ent}
end
theorem getD_set_self {l : List Bool} {i : Nat} (h : i < l.length) {x d : Bool} : (l.set i x).getD i d = x := by simp [List.getD, h]
theorem getD_set_nq {l : List Bool} {i j : Nat} (h : i ≠ j) {x d : Bool} : (l.set i x).getD j d = l.getD j d := by simp only [List.getD, List.getElem?_set_ne h]
theorem getD_lt_true {l : List Bool} {i : Nat} (h : l.getD i false = true) : i < l.length := by
  rcases Nat.lt_or_ge i l.length with q | q
  · exact q
  · simp [List.getD, List.getElem?_eq_none q] at h
def itF (f : List Bool → List Bool) (o : List Bool) : Nat → List Bool
  | 0 => o
  | r + 1 => f (itF f o r)
section
variable {f : List Bool → List Bool} (hf : ∀ o, bleB o (f o))
include hf
theorem itF_ble (o : List Bool) : ∀ r, bleB o (itF f o r)
  | 0 => bleB_refl o
  | r + 1 => bleB_trans (itF_ble o r) (hf _)
theorem itF_len (o : List Bool) (r : Nat) : (itF f o r).length = o.length := (itF_ble hf o r).1.symm
theorem itF_grows (o : List Bool) : ∀ r, (∃ q, q ≤ r ∧ f (itF f o q) = itF f o q) ∨ r + 1 ≤ (itF f o (r + 1)).count true
  | 0 => by
    by_cases h : f (itF f o 0) = itF f o 0
    · exact .inl ⟨0, Nat.le_refl _, h⟩
    · right
      have hb := ble_count (hf (itF f o 0))
      have : (itF f o 0).count true ≠ (f (itF f o 0)).count true := fun e => h (hb.2 e).symm
      have e : itF f o (0 + 1) = f (itF f o 0) := rfl
      rw [e]; omega
  | r + 1 => by
    rcases itF_grows o r with ⟨q, h1, h2⟩ | h
    · exact .inl ⟨q, by omega, h2⟩
    · by_cases hs : f (itF f o (r + 1)) = itF f o (r + 1)
      · exact .inl ⟨r + 1, Nat.le_refl _, hs⟩
      · right
        have hb := ble_count (hf (itF f o (r + 1)))
        have : (itF f o (r + 1)).count true ≠ (f (itF f o (r + 1))).count true := fun e => hs (hb.2 e).symm
        have e : itF f o (r + 1 + 1) = f (itF f o (r + 1)) := rfl
        rw [e]; omega
omit hf in
theorem itF_stop {o : List Bool} {r : Nat} (h : f (itF f o r) = itF f o r) : ∀ k, itF f o (r + k) = itF f o r
  | 0 => rfl
  | k + 1 => by rw [← Nat.add_assoc, itF, itF_stop h k, h]
theorem itF_stable (o : List Bool) {n : Nat} (hn : o.length ≤ n) : f (itF f o n) = itF f o n := by
  have key : ∃ q, q ≤ n ∧ f (itF f o q) = itF f o q := by
    rcases itF_grows hf o n with h | h
    · exact h
    · exfalso
      have h1 := List.count_le_length (a := true) (l := itF f o (n + 1))
      rw [itF_len hf] at h1; omega
  obtain ⟨q, h1, h2⟩ := key
  have := itF_stop h2 (n - q)
  rw [show q + (n - q) = n by omega] at this
  rw [this]; exact h2
end
abbrev Mv := List (List (Int × Int))
def rowB (r : List (Int × Int)) (b : List Bool) : Nat → List Bool
  | 0 => b
  | j + 1 => if (r.getD j (0, 0)).1 = -1 then (rowB r b j).set (r.getD j (0, 0)).2.toNat true else rowB r b j
def stB (M : Mv) (b : List Bool) (s : Nat) : List Bool := if b.getD s false = true then rowB (M.getD s []) b (M.getD s []).length else b
def swS (M : Mv) (b : List Bool) : Nat → List Bool
  | 0 => b
  | s + 1 => stB M (swS M b s) s
def swB (M : Mv) (b : List Bool) : List Bool := swS M b M.length
def inB (k : Nat) (l : List Int) : Nat → List Bool
  | 0 => List.replicate k false
  | i + 1 => if 0 ≤ l.getD i 0 ∧ l.getD i 0 < (k : Int) then (inB k l i).set (l.getD i 0).toNat true else inB k l i
def cloB (M : Mv) (l : List Int) : List Bool := itF (swB M) (inB M.length l l.length) M.length
def onL (n : Nat) (p : Nat → Bool) : List Int := ((List.range n).filter p).map fun (x : Nat) => (x : Int)
def cloL (M : Mv) (l : List Int) : List Int := onL M.length fun x => (cloB M l).getD x false
theorem onL_mem {n : Nat} {p : Nat → Bool} {x : Int} : x ∈ onL n p ↔ ∃ y : Nat, x = (y : Int) ∧ y < n ∧ p y = true := by
  simp only [onL, List.mem_map, List.mem_filter, List.mem_range]
  constructor
  · rintro ⟨y, ⟨h1, h2⟩, rfl⟩; exact ⟨y, rfl, h1, h2⟩
  · rintro ⟨y, rfl, h1, h2⟩; exact ⟨y, ⟨h1, h2⟩, rfl⟩
theorem onL_sorted (n : Nat) (p : Nat → Bool) : (onL n p).Pairwise (· < ·) := by
  unfold onL
  rw [List.pairwise_map]
  refine List.Pairwise.imp (fun {a b} h => ?_) ((List.pairwise_lt_range (n := n)).filter p)
  exact Int.ofNat_lt.2 h
theorem onL_len (n : Nat) (p : Nat → Bool) : (onL n p).length ≤ n := by
  unfold onL
  rw [List.length_map]
  have := List.length_filter_le p (List.range n)
  simpa using this
theorem onL_succ (n : Nat) (p : Nat → Bool) : onL (n + 1) p = onL n p ++ (if p n = true then [(n : Int)] else []) := by
  unfold onL
  rw [List.range_succ, List.filter_append, List.map_append]
  congr 1
  by_cases h : p n = true <;> simp [h]
theorem sorted_ext : ∀ {a b : List Int}, a.Pairwise (· < ·) → b.Pairwise (· < ·) → (∀ x, x ∈ a ↔ x ∈ b) → a = b
  | [], [], _, _, _ => rfl
  | [], y :: b, _, _, h => by have := (h y).2 (by simp); cases this
  | x :: a, [], _, _, h => by have := (h x).1 (by simp); cases this
  | x :: a, y :: b, h1, h2, h => by
    rw [List.pairwise_cons] at h1 h2
    have e : x = y := by
      rcases List.mem_cons.1 ((h x).1 (by simp)) with q | q
      · exact q
      · rcases List.mem_cons.1 ((h y).2 (by simp)) with r | r
        · exact r.symm
        · have q1 := h2.1 x q
          have q2 := h1.1 y r
          omega
    subst e
    congr 1
    refine sorted_ext h1.2 h2.2 fun z => ⟨fun hz => ?_, fun hz => ?_⟩
    · rcases List.mem_cons.1 ((h z).1 (by simp [hz])) with q | q
      · have := h1.1 z hz; omega
      · exact q
    · rcases List.mem_cons.1 ((h z).2 (by simp [hz])) with q | q
      · have := h2.1 z hz; omega
      · exact q
theorem rowB_ble (r : List (Int × Int)) (b : List Bool) : ∀ j, bleB b (rowB r b j)
  | 0 => bleB_refl b
  | j + 1 => by
    rw [rowB]
    split
    · exact bleB_trans (rowB_ble r b j) (set_ble _ _)
    · exact rowB_ble r b j
theorem stB_ble (M : Mv) (b : List Bool) (s : Nat) : bleB b (stB M b s) := by
  unfold stB
  split
  · exact rowB_ble _ _ _
  · exact bleB_refl b
theorem swS_ble (M : Mv) (b : List Bool) : ∀ s, bleB b (swS M b s)
  | 0 => bleB_refl b
  | s + 1 => bleB_trans (swS_ble M b s) (stB_ble M _ s)
theorem swB_ble (M : Mv) (b : List Bool) : bleB b (swB M b) := swS_ble M b _
theorem inB_len (k : Nat) (l : List Int) : ∀ i, (inB k l i).length = k
  | 0 => by simp [inB]
  | i + 1 => by
    rw [inB]
    split
    · rw [List.length_set, inB_len k l i]
    · exact inB_len k l i
theorem rowB_len (r : List (Int × Int)) (b : List Bool) (j : Nat) : (rowB r b j).length = b.length := (rowB_ble r b j).1.symm
theorem cloB_len (M : Mv) (l : List Int) : (cloB M l).length = M.length := by
  unfold cloB
  rw [itF_len (swB_ble M), inB_len]
inductive ER (M : Mv) (l : List Int) : Nat → Prop
  | base {x : Nat} (h : (x : Int) ∈ l) (hk : x < M.length) : ER M l x
  | step {s t : Nat} (hs : ER M l s) (hm : ((-1 : Int), (t : Int)) ∈ M.getD s []) (ht : t < M.length) : ER M l t
theorem ER.lt {M : Mv} {l : List Int} {x : Nat} (h : ER M l x) : x < M.length := by
  cases h with
  | base _ hk => exact hk
  | step _ _ ht => exact ht
theorem inB_er {M : Mv} {l : List Int} : ∀ {i : Nat}, i ≤ l.length → ∀ {x : Nat}, (inB M.length l i).getD x false = true → ER M l x
  | 0, _, x, h => by
    have := getD_lt_true h
    rw [inB_len] at this
    simp [inB, List.getD, this] at h
  | i + 1, hi, x, h => by
    rw [inB] at h
    split at h
    · rename_i hc
      by_cases e : (l.getD i 0).toNat = x
      · subst e
        refine .base ?_ (by omega)
        rw [show (((l.getD i 0).toNat : Nat) : Int) = l.getD i 0 by omega]
        simp [List.getD, List.getElem?_eq_getElem (show i < l.length by omega)]
      · rw [getD_set_nq e] at h
        exact inB_er (by omega) h
    · exact inB_er (by omega) h
theorem inB_keep {k : Nat} {l : List Int} {x : Nat} : ∀ {i j : Nat}, (inB k l i).getD x false = true → (inB k l (i + j)).getD x false = true
  | i, 0, h => h
  | i, j + 1, h => by
    rw [← Nat.add_assoc, inB]
    have := inB_keep (j := j) h
    split
    · exact (set_ble _ _).2 x this
    · exact this
theorem inB_base {k : Nat} {l : List Int} {x : Nat} (h : (x : Int) ∈ l) (hx : x < k) : (inB k l l.length).getD x false = true := by
  obtain ⟨i, hi, e⟩ := List.getElem_of_mem h
  have e2 : l.getD i 0 = (x : Int) := by simp [List.getD, List.getElem?_eq_getElem hi, e]
  have : (inB k l (i + 1)).getD x false = true := by
    rw [inB, if_pos (by omega), e2, Int.toNat_natCast]
    exact getD_set_self (by rw [inB_len]; exact hx)
  have := inB_keep (j := l.length - (i + 1)) this
  rwa [show i + 1 + (l.length - (i + 1)) = l.length by omega] at this
section
variable {L k : Nat} {M : Mv} {l : List Int}
theorem rowB_er (h : MOk L k M) {s : Nat} {b : List Bool} (hs : ER M l s) (hb : ∀ {x : Nat}, b.getD x false = true → ER M l x) : ∀ {j : Nat}, j ≤ (M.getD s []).length → ∀ {x : Nat}, (rowB (M.getD s []) b j).getD x false = true → ER M l x
  | 0, _, x, hx => hb hx
  | j + 1, hj, x, hx => by
    rw [rowB] at hx
    split at hx
    · rename_i hc
      have hm : (M.getD s []).getD j (0, 0) ∈ M.getD s [] := by
        generalize M.getD s [] = r at *
        simp [List.getD, List.getElem?_eq_getElem (show j < r.length by omega)]
      have hg := h.get s _ hm
      generalize (M.getD s []).getD j (0, 0) = y at *
      by_cases e : y.2.toNat = x
      · subst e
        refine .step hs ?_ (by have := h.len; omega)
        rw [show ((y.2.toNat : Nat) : Int) = y.2 by omega, ← hc]
        exact hm
      · rw [getD_set_nq e] at hx
        exact rowB_er h hs hb (by omega) hx
    · exact rowB_er h hs hb (by omega) hx
theorem swS_er (h : MOk L k M) {b : List Bool} (hb : ∀ {x : Nat}, b.getD x false = true → ER M l x) : ∀ {s x : Nat}, (swS M b s).getD x false = true → ER M l x
  | 0, x, hx => hb hx
  | s + 1, x, hx => by
    rw [swS, stB] at hx
    split at hx
    · rename_i hc
      exact rowB_er h (swS_er h hb hc) (fun hx => swS_er h hb hx) (Nat.le_refl _) hx
    · exact swS_er h hb hx
theorem itF_er (h : MOk L k M) {b : List Bool} (hb : ∀ {x : Nat}, b.getD x false = true → ER M l x) : ∀ {r x : Nat}, (itF (swB M) b r).getD x false = true → ER M l x
  | 0, x, hx => hb hx
  | r + 1, x, hx => swS_er h (fun hx => itF_er h hb hx) hx
theorem rowB_has {r : List (Int × Int)} {b : List Bool} {t : Nat} (hm : ((-1 : Int), (t : Int)) ∈ r) (ht : t < b.length) : (rowB r b r.length).getD t false = true := by
  obtain ⟨i, hi, e⟩ := List.getElem_of_mem hm
  have e2 : r.getD i (0, 0) = (-1, (t : Int)) := by simp [List.getD, List.getElem?_eq_getElem hi, e]
  have h1 : (rowB r b (i + 1)).getD t false = true := by
    rw [rowB, e2, if_pos rfl]
    exact getD_set_self (by rw [rowB_len]; exact ht)
  have h2 : ∀ j, (rowB r b (i + 1 + j)).getD t false = true := fun j => by
    induction j with
    | zero => exact h1
    | succ j ih =>
      rw [← Nat.add_assoc, rowB]
      split
      · exact (set_ble _ _).2 t ih
      · exact ih
  have := h2 (r.length - (i + 1))
  rwa [show i + 1 + (r.length - (i + 1)) = r.length by omega] at this
theorem swS_eq {b : List Bool} (h : swB M b = b) : ∀ i, i ≤ M.length → swS M b i = b := by
  intro i hi
  have h1 : bleB b (swS M b i) := swS_ble M b i
  have h2 : ∀ k, bleB (swS M b i) (swS M b (i + k)) := fun k => by
    induction k with
    | zero => exact bleB_refl _
    | succ k ih => exact bleB_trans ih (stB_ble M _ _)
  have h3 := h2 (M.length - i)
  rw [show i + (M.length - i) = M.length by omega, show swS M b M.length = b from h] at h3
  have c1 := ble_count h1
  have c2 := ble_count h3
  exact (c1.2 (by omega)).symm
theorem cloB_iff (h : MOk L k M) {x : Nat} : (cloB M l).getD x false = true ↔ ER M l x := by
  constructor
  · exact itF_er h fun hx => inB_er (Nat.le_refl _) hx
  · intro hx
    have hst : swB M (cloB M l) = cloB M l := itF_stable (swB_ble M) _ (by rw [inB_len]; exact Nat.le_refl _)
    induction hx with
    | base hm hk => exact (itF_ble (swB_ble M) _ _).2 _ (inB_base hm hk)
    | @step s t hs hm ht ih =>
      have hsl : s < M.length := by have := getD_lt_true ih; rwa [cloB_len] at this
      have h1 := swS_eq hst s (by omega)
      have h2 := swS_eq hst (s + 1) (by omega)
      rw [swS, h1, stB, if_pos ih] at h2
      rw [← h2]
      exact rowB_has hm (by rw [cloB_len]; exact ht)
theorem cloL_mem (h : MOk L k M) {x : Int} : x ∈ cloL M l ↔ ∃ y : Nat, x = (y : Int) ∧ ER M l y := by
  unfold cloL
  rw [onL_mem]
  constructor
  · rintro ⟨y, rfl, h1, h2⟩; exact ⟨y, rfl, (cloB_iff h).1 h2⟩
  · rintro ⟨y, rfl, h2⟩; exact ⟨y, rfl, h2.lt, (cloB_iff h).2 h2⟩
end
def stepP (M : Mv) (l : List Int) (a : Int) (s : Nat) : Bool := (List.range M.length).any fun i => l.contains (i : Int) && (M.getD i []).any fun m => m.1 == a && m.2 == (s : Int)
def stepL (M : Mv) (l : List Int) (a : Int) : List Int := onL M.length (stepP M l a)
theorem stepL_mem {L k : Nat} {M : Mv} (h : MOk L k M) {l : List Int} {a x : Int} : x ∈ stepL M l a ↔ ∃ i : Nat, (i : Int) ∈ l ∧ (a, x) ∈ M.getD i [] := by
  unfold stepL
  rw [onL_mem]
  constructor
  · rintro ⟨y, rfl, h1, h2⟩
    simp only [stepP, List.any_eq_true, List.mem_range, Bool.and_eq_true, List.contains_iff_mem, beq_iff_eq] at h2
    obtain ⟨i, hi, hl, ⟨m1, m2⟩, hm, e1, e2⟩ := h2
    simp only at e1 e2
    subst e1 e2
    exact ⟨i, hl, hm⟩
  · rintro ⟨i, hl, hm⟩
    have hg := h.get i _ hm
    have hi : i < M.length := by
      rcases Nat.lt_or_ge i M.length with q | q
      · exact q
      · simp [List.getD, List.getElem?_eq_none q] at hm
    simp only at hg
    refine ⟨x.toNat, by omega, by have := h.len; omega, ?_⟩
    simp only [stepP, List.any_eq_true, List.mem_range, Bool.and_eq_true, List.contains_iff_mem, beq_iff_eq]
    exact ⟨i, hi, hl, _, hm, rfl, by simp only; omega⟩
def outL (L : Nat) (M : Mv) (l : List Int) : List Int := onL L fun a => !(stepL M l (a : Int)).isEmpty
theorem outL_mem {L k : Nat} {M : Mv} (h : MOk L k M) {l : List Int} {a : Int} : a ∈ outL L M l ↔ 0 ≤ a ∧ ∃ (i : Nat) (x : Int), (i : Int) ∈ l ∧ (a, x) ∈ M.getD i [] := by
  unfold outL
  rw [onL_mem]
  constructor
  · rintro ⟨y, rfl, h1, h2⟩
    refine ⟨by omega, ?_⟩
    obtain ⟨x, hx⟩ := List.exists_mem_of_ne_nil (stepL M l (y : Int)) (by intro e; rw [e] at h2; cases h2)
    obtain ⟨i, h3, h4⟩ := (stepL_mem h).1 hx
    exact ⟨i, x, h3, h4⟩
  · rintro ⟨h0, i, x, h1, h2⟩
    have hg := h.get i _ h2
    simp only at hg
    refine ⟨a.toNat, by omega, by omega, ?_⟩
    have hx := (stepL_mem h (l := l)).2 ⟨i, h1, h2⟩
    rw [show ((a.toNat : Nat) : Int) = a by omega]
    cases hs : stepL M l a with
    | nil => rw [hs] at hx; cases hx
    | cons y t => rfl
def finL (F : List Bool) (l : List Int) : Bool := l.any fun s => decide (0 ≤ s) && decide (s < (F.length : Int)) && F.getD s.toNat false
def takS (M : Mv) (l : List Int) : List Int → List Int
  | [] => l
  | a :: w => takS M (cloL M (stepL M l a)) w
def takB (M : Mv) (F : List Bool) (st : Nat) (w : List Int) : Bool := finL F (takS M (cloL M [(st : Int)]) w)
end Go.Proofs.Ytcpipfodedfpkaa
