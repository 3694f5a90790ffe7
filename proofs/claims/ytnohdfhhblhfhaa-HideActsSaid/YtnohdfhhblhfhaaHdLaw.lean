/-
  The law HideActs, walked.
-/
import Derived.Test.YtnohdfhhblhfhaaHd2
import Derived.Test.YtnohdfhhblhfhaaSm
namespace Go.Proofs.Ytnohdfhhblhfhaa
open Go.Ab
set_option linter.unusedSimpArgs false
set_option linter.unusedVariables false

def fix5 : List Lab := [(0, 1, 0), (0, 1, 1), (0, 2, 0), (1, 0, 0), (2, 1, 0)]

set_option maxHeartbeats 1000000 in
theorem c_Labels (n : Nat) (hn : n ≤ 7) : Contract Try.prog 4 [i64 n] (.sl false (tri (fix5.take (min n 5)))) [] := by
  refine contract_of_awp (rs := [2]) Try.func4 rfl Try.ntmps4 (by simp) rfl fun E => ?_
  have hmax : (if (0 : Int) > (n : Int) then (0 : Int) else (n : Int)) = (n : Int) := by split <;> omega
  have hmin : (if (5 : Int) < (n : Int) then (5 : Int) else (n : Int)) = ((min n 5 : Nat) : Int) := by omega
  have hr : [[D.v (.int .i64 0), D.v (.int .i64 1), D.v (.int .i64 0)], [D.v (.int .i64 0), D.v (.int .i64 1), D.v (.int .i64 1)], [D.v (.int .i64 0), D.v (.int .i64 2), D.v (.int .i64 0)], [D.v (.int .i64 1), D.v (.int .i64 0), D.v (.int .i64 0)], [D.v (.int .i64 2), D.v (.int .i64 1), D.v (.int .i64 0)]] = tri fix5 := rfl
  have hl5 : (tri fix5).length = 5 := rfl
  have hm5 : min n 5 ≤ 5 := Nat.min_le_right _ _
  generalize min n 5 = m at *
  (repeat (first | refine awp_seq ?_ | refine awp_block ?_ | ((first | refine awp_skip ?_ | refine awp_exit ?_ | refine awp_reg ttok ?_ | (refine awp_draw ttok ?dr_calm ?_; (case dr_calm => decide +kernel)) | refine awp_condM ?_); simp (maxSteps := 4000000) only [aops_nil, aops_cons, stepR, runR_go, runR_call, runR_nilc, St.want, exec1, val, St.ev, St.evL, St.evO, upd, lk, St.put, St.fits, startSt, ofV, ofAtom, thenA, loopA, blockA, ↓reduceIte, Nat.reduceLT, Nat.reduceEqDiff, reduceCtorEq, dbin, sbin, sun, valConvert, valLen, isSliceT, Nat.reduceAdd, Nat.reduceMul, Knows, KnowsH, Int.reduceLE, Int.reduceLT, Int.reduceToNat, Nat.reduceLeDiff, Nat.reduceSub, Int.reduceEq, St.callOf, St.nilCmp, aopsL_nil, aopsL_cons, stepL, runL_some, bnd, valSlice, valLoad, valIndexAddr, valFieldAddr, valField, valIndex, partD, isAggT, St.rowOf, St.rowsOf, valExtract, valMin, valMax, hop, hopAlloc, hopBox, hopBuildSlice, hopMakeSlice, hopAppend, hopCopy, hopStore, hopBytes, hopConv, srcD, isIntT, St.bind, killS, killH, zrow, D.kill, D.killL, AObj.kill, pur, purB, purL, purLL, St.freeze, D.cells, Value.oneCell', fillD, placesL, valBuild, fnOf, St.adoptL, AObj.ren, D.ren, D.renL, objsOk, St.result, Nat.reduceBEq, startM, AObj.pinned, AObj.bare, pinAt, St.callM, killsS, killsH, adoptM, struck, sigM, purM, D.all, D.allL, InsAt, OutsAt, convBytes, aopsD_nil, aopsD_look, aopsD_eff, dLook_some, dEff_some, stepE, runE_go, runE_call, stabA_nil, stabA_cons, stab1_some, slotIs, List.replicate, List.set, if_false, if_true, ne_eq, false_implies, implies_true, callK, callKD, St.unpin, St.resultV, St.res1, St.resL, ObjsAt, St.swap, swapN, aggEq, St.pureSlot, joinA, aopsS_cons, aopsS_nil, St.unflat, St.pureObj, evT, tyA0, tyA1, tyA2, tyA3, tyA4, tyA5, hmax, hmin, hr]; (repeat (with_reducible refine And.intro ?_ ?_; focus ((repeat' with_reducible apply And.intro) <;> (first | omega | with_reducible trivial | with_reducible assumption)))); (with_reducible first | refine awp_id ?_ | refine id_call ?_ | refine id_and ?_ | refine id_ex ?_ | refine id_all ?_ | refine id_le ?_))))
  refine awp_pure 2 (d := .own 2005 0 m) (d' := .sl false (tri (fix5.take m))) (ids := [2005]) (p := m ≤ (tri fix5).length) (by simp (maxSteps := 4000000) only [aops_nil, aops_cons, stepR, runR_go, runR_call, runR_nilc, St.want, exec1, val, St.ev, St.evL, St.evO, upd, lk, St.put, St.fits, startSt, ofV, ofAtom, thenA, loopA, blockA, ↓reduceIte, Nat.reduceLT, Nat.reduceEqDiff, reduceCtorEq, dbin, sbin, sun, valConvert, valLen, isSliceT, Nat.reduceAdd, Nat.reduceMul, Knows, KnowsH, Int.reduceLE, Int.reduceLT, Int.reduceToNat, Nat.reduceLeDiff, Nat.reduceSub, Int.reduceEq, St.callOf, St.nilCmp, aopsL_nil, aopsL_cons, stepL, runL_some, bnd, valSlice, valLoad, valIndexAddr, valFieldAddr, valField, valIndex, partD, isAggT, St.rowOf, St.rowsOf, valExtract, valMin, valMax, hop, hopAlloc, hopBox, hopBuildSlice, hopMakeSlice, hopAppend, hopCopy, hopStore, hopBytes, hopConv, srcD, isIntT, St.bind, killS, killH, zrow, D.kill, D.killL, AObj.kill, pur, purB, purL, purLL, St.freeze, D.cells, Value.oneCell', fillD, placesL, valBuild, fnOf, St.adoptL, AObj.ren, D.ren, D.renL, objsOk, St.result, Nat.reduceBEq, startM, AObj.pinned, AObj.bare, pinAt, St.callM, killsS, killsH, adoptM, struck, sigM, purM, D.all, D.allL, InsAt, OutsAt, convBytes, aopsD_nil, aopsD_look, aopsD_eff, dLook_some, dEff_some, stepE, runE_go, runE_call, stabA_nil, stabA_cons, stab1_some, slotIs, List.replicate, List.set, if_false, if_true, ne_eq, false_implies, implies_true, callK, callKD, St.unpin, St.resultV, St.res1, St.resL, ObjsAt, St.swap, swapN, aggEq, St.pureSlot, joinA, aopsS_cons, aopsS_nil, St.unflat, St.pureObj, evT]) (by simp (maxSteps := 4000000) only [aops_nil, aops_cons, stepR, runR_go, runR_call, runR_nilc, St.want, exec1, val, St.ev, St.evL, St.evO, upd, lk, St.put, St.fits, startSt, ofV, ofAtom, thenA, loopA, blockA, ↓reduceIte, Nat.reduceLT, Nat.reduceEqDiff, reduceCtorEq, dbin, sbin, sun, valConvert, valLen, isSliceT, Nat.reduceAdd, Nat.reduceMul, Knows, KnowsH, Int.reduceLE, Int.reduceLT, Int.reduceToNat, Nat.reduceLeDiff, Nat.reduceSub, Int.reduceEq, St.callOf, St.nilCmp, aopsL_nil, aopsL_cons, stepL, runL_some, bnd, valSlice, valLoad, valIndexAddr, valFieldAddr, valField, valIndex, partD, isAggT, St.rowOf, St.rowsOf, valExtract, valMin, valMax, hop, hopAlloc, hopBox, hopBuildSlice, hopMakeSlice, hopAppend, hopCopy, hopStore, hopBytes, hopConv, srcD, isIntT, St.bind, killS, killH, zrow, D.kill, D.killL, AObj.kill, pur, purB, purL, purLL, St.freeze, D.cells, Value.oneCell', fillD, placesL, valBuild, fnOf, St.adoptL, AObj.ren, D.ren, D.renL, objsOk, St.result, Nat.reduceBEq, startM, AObj.pinned, AObj.bare, pinAt, St.callM, killsS, killsH, adoptM, struck, sigM, purM, D.all, D.allL, InsAt, OutsAt, convBytes, aopsD_nil, aopsD_look, aopsD_eff, dLook_some, dEff_some, stepE, runE_go, runE_call, stabA_nil, stabA_cons, stab1_some, slotIs, List.replicate, List.set, if_false, if_true, ne_eq, false_implies, implies_true, callK, callKD, St.unpin, St.resultV, St.res1, St.resL, ObjsAt, St.swap, swapN, aggEq, St.pureSlot, joinA, aopsS_cons, aopsS_nil, St.unflat, St.pureObj, evT, tri_take]) (by omega) ?_
  exact awp_ret (ends_plain (.inr rfl) rfl (by simp (maxSteps := 4000000) only [aops_nil, aops_cons, stepR, runR_go, runR_call, runR_nilc, St.want, exec1, val, St.ev, St.evL, St.evO, upd, lk, St.put, St.fits, startSt, ofV, ofAtom, thenA, loopA, blockA, ↓reduceIte, Nat.reduceLT, Nat.reduceEqDiff, reduceCtorEq, dbin, sbin, sun, valConvert, valLen, isSliceT, Nat.reduceAdd, Nat.reduceMul, Knows, KnowsH, Int.reduceLE, Int.reduceLT, Int.reduceToNat, Nat.reduceLeDiff, Nat.reduceSub, Int.reduceEq, St.callOf, St.nilCmp, aopsL_nil, aopsL_cons, stepL, runL_some, bnd, valSlice, valLoad, valIndexAddr, valFieldAddr, valField, valIndex, partD, isAggT, St.rowOf, St.rowsOf, valExtract, valMin, valMax, hop, hopAlloc, hopBox, hopBuildSlice, hopMakeSlice, hopAppend, hopCopy, hopStore, hopBytes, hopConv, srcD, isIntT, St.bind, killS, killH, zrow, D.kill, D.killL, AObj.kill, pur, purB, purL, purLL, St.freeze, D.cells, Value.oneCell', fillD, placesL, valBuild, fnOf, St.adoptL, AObj.ren, D.ren, D.renL, objsOk, St.result, Nat.reduceBEq, startM, AObj.pinned, AObj.bare, pinAt, St.callM, killsS, killsH, adoptM, struck, sigM, purM, D.all, D.allL, InsAt, OutsAt, convBytes, aopsD_nil, aopsD_look, aopsD_eff, dLook_some, dEff_some, stepE, runE_go, runE_call, stabA_nil, stabA_cons, stab1_some, slotIs, List.replicate, List.set, if_false, if_true, ne_eq, false_implies, implies_true, callK, callKD, St.unpin, St.resultV, St.res1, St.resL, ObjsAt, St.swap, swapN, aggEq, St.pureSlot, joinA, aopsS_cons, aopsS_nil, St.unflat, St.pureObj, evT, St.pureSlot]))

set_option maxHeartbeats 2000000 in
theorem c_awake23 : Contract Try.prog 6 [] (bo true) [] := by
  refine contract_of_awp (rs := [0]) Try.func6 rfl Try.ntmps6 (by simp) rfl fun E => ?_
  have hr : [[D.v (.int .i64 0), D.v (.int .i64 1), D.v (.int .i64 0)]] = tri [(0, 1, 0)] := rfl
  have ht1 : List.take 1 (tri [(0, 1, 0)]) = tri [(0, 1, 0)] := rfl
  have h2 := c_Acts false [(0, 1, 0)] 2 (by decide)
  have h1 := c_Acts false [(0, 1, 0)] 1 (by decide)
  have e2 : acts [(0, 1, 0)] 2 ([(0, 1, 0)] : List Lab).length = [] := rfl
  have e1 : acts [(0, 1, 0)] 1 ([(0, 1, 0)] : List Lab).length = [(2, 0)] := rfl
  rw [e2] at h2
  rw [e1] at h1
  have hw := c_Word false false [(0, 1, 0)] 0 [0, 0] (by decide) (by decide)
  have ew : wordOf [(0, 1, 0)] 0 [0, 0] = [0, 0] := by decide
  rw [ew] at hw
  have hz : [[D.v (.int .i64 0)], [D.v (.int .i64 0)]] = ints [0, 0] := rfl
  have k0 : ((((([] : List (Int × Int)).length : Nat) : Int)) == 0) = true := rfl
  have k0' : (((0 : Nat) : Int) == 0) = true := rfl
  have k1 : (((1 : Nat) : Int) == 1) = true := rfl
  have k2 : (((2 : Nat) : Int) == 2) = true := rfl
  have g0 : (duo [(2, 0)]).getD 0 [] = [i64 2, i64 0] := rfl
  have ka : ((2 : Int) == 2) = true := rfl
  have kb : ((0 : Int) == 0) = true := rfl
  have hl1 : (duo [(2, 0)]).length = 1 := rfl
  have hi2 : List.take 2 ([0, 0] : List Int) = [0, 0] := rfl
  have htl : (tri [(0, 1, 0)]).length = 1 := rfl
  (repeat (first | refine awp_seq ?_ | refine awp_block ?_ | ((first | refine awp_skip ?_ | refine awp_exit ?_ | refine awp_reg ttok ?_ | (refine awp_draw ttok ?dr_calm ?_; (case dr_calm => decide +kernel)) | refine awp_condM ?_); simp (maxSteps := 4000000) only [aops_nil, aops_cons, stepR, runR_go, runR_call, runR_nilc, St.want, exec1, val, St.ev, St.evL, St.evO, upd, lk, St.put, St.fits, startSt, ofV, ofAtom, thenA, loopA, blockA, ↓reduceIte, Nat.reduceLT, Nat.reduceEqDiff, reduceCtorEq, dbin, sbin, sun, valConvert, valLen, isSliceT, Nat.reduceAdd, Nat.reduceMul, Knows, KnowsH, Int.reduceLE, Int.reduceLT, Int.reduceToNat, Nat.reduceLeDiff, Nat.reduceSub, Int.reduceEq, St.callOf, St.nilCmp, aopsL_nil, aopsL_cons, stepL, runL_some, bnd, valSlice, valLoad, valIndexAddr, valFieldAddr, valField, valIndex, partD, isAggT, St.rowOf, St.rowsOf, valExtract, valMin, valMax, hop, hopAlloc, hopBox, hopBuildSlice, hopMakeSlice, hopAppend, hopCopy, hopStore, hopBytes, hopConv, srcD, isIntT, St.bind, killS, killH, zrow, D.kill, D.killL, AObj.kill, pur, purB, purL, purLL, St.freeze, D.cells, Value.oneCell', fillD, placesL, valBuild, fnOf, St.adoptL, AObj.ren, D.ren, D.renL, objsOk, St.result, Nat.reduceBEq, startM, AObj.pinned, AObj.bare, pinAt, St.callM, killsS, killsH, adoptM, struck, sigM, purM, D.all, D.allL, InsAt, OutsAt, convBytes, aopsD_nil, aopsD_look, aopsD_eff, dLook_some, dEff_some, stepE, runE_go, runE_call, stabA_nil, stabA_cons, stab1_some, slotIs, List.replicate, List.set, if_false, if_true, ne_eq, false_implies, implies_true, callK, callKD, St.unpin, St.resultV, St.res1, St.resL, ObjsAt, St.swap, swapN, aggEq, St.pureSlot, joinA, aopsS_cons, aopsS_nil, St.unflat, St.pureObj, evT, tyA0, tyA1, tyA2, tyA3, tyA4, tyA5, hr]; (repeat (with_reducible refine And.intro ?_ ?_; focus ((repeat' with_reducible apply And.intro) <;> (first | omega | with_reducible trivial | with_reducible assumption)))); (with_reducible first | refine awp_id ?_ | refine id_call ?_ | refine id_and ?_ | refine id_ex ?_ | refine id_all ?_ | refine id_le ?_))))
  refine callVC_mk fnok5 (by rw [ht1]; exact h2) rfl ?_
  simp (maxSteps := 4000000) only [aops_nil, aops_cons, stepR, runR_go, runR_call, runR_nilc, St.want, exec1, val, St.ev, St.evL, St.evO, upd, lk, St.put, St.fits, startSt, ofV, ofAtom, thenA, loopA, blockA, ↓reduceIte, Nat.reduceLT, Nat.reduceEqDiff, reduceCtorEq, dbin, sbin, sun, valConvert, valLen, isSliceT, Nat.reduceAdd, Nat.reduceMul, Knows, KnowsH, Int.reduceLE, Int.reduceLT, Int.reduceToNat, Nat.reduceLeDiff, Nat.reduceSub, Int.reduceEq, St.callOf, St.nilCmp, aopsL_nil, aopsL_cons, stepL, runL_some, bnd, valSlice, valLoad, valIndexAddr, valFieldAddr, valField, valIndex, partD, isAggT, St.rowOf, St.rowsOf, valExtract, valMin, valMax, hop, hopAlloc, hopBox, hopBuildSlice, hopMakeSlice, hopAppend, hopCopy, hopStore, hopBytes, hopConv, srcD, isIntT, St.bind, killS, killH, zrow, D.kill, D.killL, AObj.kill, pur, purB, purL, purLL, St.freeze, D.cells, Value.oneCell', fillD, placesL, valBuild, fnOf, St.adoptL, AObj.ren, D.ren, D.renL, objsOk, St.result, Nat.reduceBEq, startM, AObj.pinned, AObj.bare, pinAt, St.callM, killsS, killsH, adoptM, struck, sigM, purM, D.all, D.allL, InsAt, OutsAt, convBytes, aopsD_nil, aopsD_look, aopsD_eff, dLook_some, dEff_some, stepE, runE_go, runE_call, stabA_nil, stabA_cons, stab1_some, slotIs, List.replicate, List.set, if_false, if_true, ne_eq, false_implies, implies_true, callK, callKD, St.unpin, St.resultV, St.res1, St.resL, ObjsAt, St.swap, swapN, aggEq, St.pureSlot, joinA, aopsS_cons, aopsS_nil, St.unflat, St.pureObj, evT, tyA0, tyA1, tyA2, tyA3, tyA4, tyA5, k0, k0', ht1, htl]
  (repeat (with_reducible refine And.intro ?_ ?_; focus ((repeat' with_reducible apply And.intro) <;> (first | omega | with_reducible trivial | with_reducible assumption))))
  refine callVC_mk fnok5 h1 rfl ?_
  simp (maxSteps := 4000000) only [aops_nil, aops_cons, stepR, runR_go, runR_call, runR_nilc, St.want, exec1, val, St.ev, St.evL, St.evO, upd, lk, St.put, St.fits, startSt, ofV, ofAtom, thenA, loopA, blockA, ↓reduceIte, Nat.reduceLT, Nat.reduceEqDiff, reduceCtorEq, dbin, sbin, sun, valConvert, valLen, isSliceT, Nat.reduceAdd, Nat.reduceMul, Knows, KnowsH, Int.reduceLE, Int.reduceLT, Int.reduceToNat, Nat.reduceLeDiff, Nat.reduceSub, Int.reduceEq, St.callOf, St.nilCmp, aopsL_nil, aopsL_cons, stepL, runL_some, bnd, valSlice, valLoad, valIndexAddr, valFieldAddr, valField, valIndex, partD, isAggT, St.rowOf, St.rowsOf, valExtract, valMin, valMax, hop, hopAlloc, hopBox, hopBuildSlice, hopMakeSlice, hopAppend, hopCopy, hopStore, hopBytes, hopConv, srcD, isIntT, St.bind, killS, killH, zrow, D.kill, D.killL, AObj.kill, pur, purB, purL, purLL, St.freeze, D.cells, Value.oneCell', fillD, placesL, valBuild, fnOf, St.adoptL, AObj.ren, D.ren, D.renL, objsOk, St.result, Nat.reduceBEq, startM, AObj.pinned, AObj.bare, pinAt, St.callM, killsS, killsH, adoptM, struck, sigM, purM, D.all, D.allL, InsAt, OutsAt, convBytes, aopsD_nil, aopsD_look, aopsD_eff, dLook_some, dEff_some, stepE, runE_go, runE_call, stabA_nil, stabA_cons, stab1_some, slotIs, List.replicate, List.set, if_false, if_true, ne_eq, false_implies, implies_true, callK, callKD, St.unpin, St.resultV, St.res1, St.resL, ObjsAt, St.swap, swapN, aggEq, St.pureSlot, joinA, aopsS_cons, aopsS_nil, St.unflat, St.pureObj, evT, tyA0, tyA1, tyA2, tyA3, tyA4, tyA5, k1, ht1, htl]
  (repeat (with_reducible refine And.intro ?_ ?_; focus ((repeat' with_reducible apply And.intro) <;> (first | omega | with_reducible trivial | with_reducible assumption))))
  refine callVC_mk fnok5 h1 rfl ?_
  simp (maxSteps := 4000000) only [aops_nil, aops_cons, stepR, runR_go, runR_call, runR_nilc, St.want, exec1, val, St.ev, St.evL, St.evO, upd, lk, St.put, St.fits, startSt, ofV, ofAtom, thenA, loopA, blockA, ↓reduceIte, Nat.reduceLT, Nat.reduceEqDiff, reduceCtorEq, dbin, sbin, sun, valConvert, valLen, isSliceT, Nat.reduceAdd, Nat.reduceMul, Knows, KnowsH, Int.reduceLE, Int.reduceLT, Int.reduceToNat, Nat.reduceLeDiff, Nat.reduceSub, Int.reduceEq, St.callOf, St.nilCmp, aopsL_nil, aopsL_cons, stepL, runL_some, bnd, valSlice, valLoad, valIndexAddr, valFieldAddr, valField, valIndex, partD, isAggT, St.rowOf, St.rowsOf, valExtract, valMin, valMax, hop, hopAlloc, hopBox, hopBuildSlice, hopMakeSlice, hopAppend, hopCopy, hopStore, hopBytes, hopConv, srcD, isIntT, St.bind, killS, killH, zrow, D.kill, D.killL, AObj.kill, pur, purB, purL, purLL, St.freeze, D.cells, Value.oneCell', fillD, placesL, valBuild, fnOf, St.adoptL, AObj.ren, D.ren, D.renL, objsOk, St.result, Nat.reduceBEq, startM, AObj.pinned, AObj.bare, pinAt, St.callM, killsS, killsH, adoptM, struck, sigM, purM, D.all, D.allL, InsAt, OutsAt, convBytes, aopsD_nil, aopsD_look, aopsD_eff, dLook_some, dEff_some, stepE, runE_go, runE_call, stabA_nil, stabA_cons, stab1_some, slotIs, List.replicate, List.set, if_false, if_true, ne_eq, false_implies, implies_true, callK, callKD, St.unpin, St.resultV, St.res1, St.resL, ObjsAt, St.swap, swapN, aggEq, St.pureSlot, joinA, aopsS_cons, aopsS_nil, St.unflat, St.pureObj, evT, tyA0, tyA1, tyA2, tyA3, tyA4, tyA5, g0, hl1, ka, kb, hz, ht1, hi2, htl]
  (repeat (with_reducible refine And.intro ?_ ?_; focus ((repeat' with_reducible apply And.intro) <;> (first | omega | with_reducible trivial | with_reducible assumption))))
  refine callVC_mk fnok8 hw rfl ?_
  simp (maxSteps := 4000000) only [aops_nil, aops_cons, stepR, runR_go, runR_call, runR_nilc, St.want, exec1, val, St.ev, St.evL, St.evO, upd, lk, St.put, St.fits, startSt, ofV, ofAtom, thenA, loopA, blockA, ↓reduceIte, Nat.reduceLT, Nat.reduceEqDiff, reduceCtorEq, dbin, sbin, sun, valConvert, valLen, isSliceT, Nat.reduceAdd, Nat.reduceMul, Knows, KnowsH, Int.reduceLE, Int.reduceLT, Int.reduceToNat, Nat.reduceLeDiff, Nat.reduceSub, Int.reduceEq, St.callOf, St.nilCmp, aopsL_nil, aopsL_cons, stepL, runL_some, bnd, valSlice, valLoad, valIndexAddr, valFieldAddr, valField, valIndex, partD, isAggT, St.rowOf, St.rowsOf, valExtract, valMin, valMax, hop, hopAlloc, hopBox, hopBuildSlice, hopMakeSlice, hopAppend, hopCopy, hopStore, hopBytes, hopConv, srcD, isIntT, St.bind, killS, killH, zrow, D.kill, D.killL, AObj.kill, pur, purB, purL, purLL, St.freeze, D.cells, Value.oneCell', fillD, placesL, valBuild, fnOf, St.adoptL, AObj.ren, D.ren, D.renL, objsOk, St.result, Nat.reduceBEq, startM, AObj.pinned, AObj.bare, pinAt, St.callM, killsS, killsH, adoptM, struck, sigM, purM, D.all, D.allL, InsAt, OutsAt, convBytes, aopsD_nil, aopsD_look, aopsD_eff, dLook_some, dEff_some, stepE, runE_go, runE_call, stabA_nil, stabA_cons, stab1_some, slotIs, List.replicate, List.set, if_false, if_true, ne_eq, false_implies, implies_true, callK, callKD, St.unpin, St.resultV, St.res1, St.resL, ObjsAt, St.swap, swapN, aggEq, St.pureSlot, joinA, aopsS_cons, aopsS_nil, St.unflat, St.pureObj, evT, tyA0, tyA1, tyA2, tyA3, tyA4, tyA5, k2]
  (repeat (with_reducible refine And.intro ?_ ?_; focus ((repeat' with_reducible apply And.intro) <;> (first | omega | with_reducible trivial | with_reducible assumption))))
  (repeat (first | refine awp_seq ?_ | refine awp_block ?_ | ((first | refine awp_skip ?_ | refine awp_exit ?_ | refine awp_reg ttok ?_ | (refine awp_draw ttok ?dr_calm ?_; (case dr_calm => decide +kernel)) | refine awp_condM ?_); simp (maxSteps := 4000000) only [aops_nil, aops_cons, stepR, runR_go, runR_call, runR_nilc, St.want, exec1, val, St.ev, St.evL, St.evO, upd, lk, St.put, St.fits, startSt, ofV, ofAtom, thenA, loopA, blockA, ↓reduceIte, Nat.reduceLT, Nat.reduceEqDiff, reduceCtorEq, dbin, sbin, sun, valConvert, valLen, isSliceT, Nat.reduceAdd, Nat.reduceMul, Knows, KnowsH, Int.reduceLE, Int.reduceLT, Int.reduceToNat, Nat.reduceLeDiff, Nat.reduceSub, Int.reduceEq, St.callOf, St.nilCmp, aopsL_nil, aopsL_cons, stepL, runL_some, bnd, valSlice, valLoad, valIndexAddr, valFieldAddr, valField, valIndex, partD, isAggT, St.rowOf, St.rowsOf, valExtract, valMin, valMax, hop, hopAlloc, hopBox, hopBuildSlice, hopMakeSlice, hopAppend, hopCopy, hopStore, hopBytes, hopConv, srcD, isIntT, St.bind, killS, killH, zrow, D.kill, D.killL, AObj.kill, pur, purB, purL, purLL, St.freeze, D.cells, Value.oneCell', fillD, placesL, valBuild, fnOf, St.adoptL, AObj.ren, D.ren, D.renL, objsOk, St.result, Nat.reduceBEq, startM, AObj.pinned, AObj.bare, pinAt, St.callM, killsS, killsH, adoptM, struck, sigM, purM, D.all, D.allL, InsAt, OutsAt, convBytes, aopsD_nil, aopsD_look, aopsD_eff, dLook_some, dEff_some, stepE, runE_go, runE_call, stabA_nil, stabA_cons, stab1_some, slotIs, List.replicate, List.set, if_false, if_true, ne_eq, false_implies, implies_true, callK, callKD, St.unpin, St.resultV, St.res1, St.resL, ObjsAt, St.swap, swapN, aggEq, St.pureSlot, joinA, aopsS_cons, aopsS_nil, St.unflat, St.pureObj, evT, tyA0, tyA1, tyA2, tyA3, tyA4, tyA5]; (repeat (with_reducible refine And.intro ?_ ?_; focus ((repeat' with_reducible apply And.intro) <;> (first | omega | with_reducible trivial | with_reducible assumption)))); (with_reducible first | refine awp_id ?_ | refine id_call ?_ | refine id_and ?_ | refine id_ex ?_ | refine id_all ?_ | refine id_le ?_))))
  exact awp_ret (ends_plain (.inr rfl) rfl (by simp (maxSteps := 4000000) only [aops_nil, aops_cons, stepR, runR_go, runR_call, runR_nilc, St.want, exec1, val, St.ev, St.evL, St.evO, upd, lk, St.put, St.fits, startSt, ofV, ofAtom, thenA, loopA, blockA, ↓reduceIte, Nat.reduceLT, Nat.reduceEqDiff, reduceCtorEq, dbin, sbin, sun, valConvert, valLen, isSliceT, Nat.reduceAdd, Nat.reduceMul, Knows, KnowsH, Int.reduceLE, Int.reduceLT, Int.reduceToNat, Nat.reduceLeDiff, Nat.reduceSub, Int.reduceEq, St.callOf, St.nilCmp, aopsL_nil, aopsL_cons, stepL, runL_some, bnd, valSlice, valLoad, valIndexAddr, valFieldAddr, valField, valIndex, partD, isAggT, St.rowOf, St.rowsOf, valExtract, valMin, valMax, hop, hopAlloc, hopBox, hopBuildSlice, hopMakeSlice, hopAppend, hopCopy, hopStore, hopBytes, hopConv, srcD, isIntT, St.bind, killS, killH, zrow, D.kill, D.killL, AObj.kill, pur, purB, purL, purLL, St.freeze, D.cells, Value.oneCell', fillD, placesL, valBuild, fnOf, St.adoptL, AObj.ren, D.ren, D.renL, objsOk, St.result, Nat.reduceBEq, startM, AObj.pinned, AObj.bare, pinAt, St.callM, killsS, killsH, adoptM, struck, sigM, purM, D.all, D.allL, InsAt, OutsAt, convBytes, aopsD_nil, aopsD_look, aopsD_eff, dLook_some, dEff_some, stepE, runE_go, runE_call, stabA_nil, stabA_cons, stab1_some, slotIs, List.replicate, List.set, if_false, if_true, ne_eq, false_implies, implies_true, callK, callKD, St.unpin, St.resultV, St.res1, St.resL, ObjsAt, St.swap, swapN, aggEq, St.pureSlot, joinA, aopsS_cons, aopsS_nil, St.unflat, St.pureObj, evT]))

/-! ### places -/

def hasI (l : List Lab) (part : Int) (j : Nat) : Bool := (l.getD j (0, 0, 0)).1 == part || (l.getD j (0, 0, 0)).2.1 == part
def plv (l : List Lab) (part : Int) (j : Nat) : Int := if hasI l part j = true then ((acts l part j).length : Int) else -1
def plc (l : List Lab) (part : Int) (n : Nat) : List Int := (List.range 8).map fun j => if j < n then plv l part j else 0
theorem plc_len (l : List Lab) (part : Int) (n : Nat) : (plc l part n).length = 8 := by simp [plc]
theorem plc_get (l : List Lab) (part : Int) {n j : Nat} (hj : j < 8) : (plc l part n).getD j 0 = if j < n then plv l part j else 0 := by
  simp [plc, List.getD, hj]
theorem plc_set (l : List Lab) (part : Int) {n : Nat} (hn : n < 8) : (plc l part n).set n (plv l part n) = plc l part (n + 1) := by
  apply List.ext_getElem
  · simp [plc]
  · intro j h1 h2
    simp only [plc, List.getElem_set, List.getElem_map, List.getElem_range]
    by_cases h : n = j
    · subst h; simp
    · have : (j < n) ↔ (j < n + 1) := by omega
      simp [h, this]
def arow (p : List Int) : List D := p.map fun x => i64 x
theorem arow_len (p : List Int) : (arow p).length = p.length := by simp [arow]
theorem arow_get {p : List Int} {k : Nat} (h : k < p.length) : (arow p).getD k .junk = i64 (p.getD k 0) := by
  simp [arow, List.getD, List.getElem?_eq_getElem h]
theorem arow_set {p : List Int} {k : Nat} (h : k < p.length) (v : Int) : List.take k (arow p) ++ (i64 v :: List.drop (k + 1) (arow p)) = arow (p.set k v) := by
  have : (arow p).set k (i64 v) = arow (p.set k v) := by simp [arow, List.map_set]
  rw [← this, List.set_eq_take_append_cons_drop, if_pos (by rw [arow_len]; exact h)]

theorem acts_small (l : List Lab) (part : Int) : ∀ n, ∀ x ∈ acts l part n, x.2 < (n : Int)
  | 0, x, h => by simp [acts] at h
  | n + 1, x, h => by
    simp only [acts, List.mem_append] at h
    rcases h with h | h
    · have := acts_small l part n x h; omega
    · unfold actOf at h
      split at h
      · simp at h; subst h; simp; omega
      · split at h
        · simp at h; subst h; simp; omega
        · simp at h
theorem idxA_miss : ∀ (l : List (Int × Int)) (m : List (Int × Int)) (w : Int) (k : Nat), (∀ x ∈ l, x.2 ≠ w) → idxA (l ++ m) w k = idxA m w (k + l.length)
  | [], m, w, k, _ => rfl
  | x :: l, m, w, k, h => by
    rw [List.cons_append, idxA, if_neg (h x (by simp)), idxA_miss l m w (k + 1) (fun y hy => h y (by simp [hy])), List.length_cons]
    congr 1; omega
theorem idxA_hit : ∀ (l : List (Int × Int)) (m : List (Int × Int)) (w : Int) (k : Nat), (∃ x ∈ l, x.2 = w) → idxA (l ++ m) w k = idxA l w k
  | [], m, w, k, h => by simp at h
  | x :: l, m, w, k, h => by
    rw [List.cons_append, idxA, idxA]
    by_cases e : x.2 = w
    · rw [if_pos e, if_pos e]
    · rw [if_neg e, if_neg e]
      refine idxA_hit l m w (k + 1) ?_
      obtain ⟨y, hy, he⟩ := h
      rcases List.mem_cons.1 hy with rfl | hy
      · exact absurd he e
      · exact ⟨y, hy, he⟩
theorem actOf_mem {part : Int} {x : Lab} {i : Nat} (h : (x.1 == part || x.2.1 == part) = true) : ∃ y, actOf part x i = [y] ∧ y.2 = (i : Int) := by
  unfold actOf
  by_cases h1 : part = x.1
  · rw [if_pos h1]; exact ⟨_, rfl, rfl⟩
  · rw [if_neg h1]
    have h2 : part = x.2.1 := by
      simp only [Bool.or_eq_true, beq_iff_eq] at h
      rcases h with h | h
      · exact absurd h.symm h1
      · exact h.symm
    rw [if_pos h2]; exact ⟨_, rfl, rfl⟩
theorem idx_acts (l : List Lab) (part : Int) {k : Nat} (hh : hasI l part k = true) : ∀ n, k < n → idxA (acts l part n) (k : Int) 0 = ((acts l part k).length : Int)
  | 0, h => by omega
  | n + 1, h => by
    simp only [acts]
    by_cases e : k = n
    · subst e
      rw [idxA_miss _ _ _ _ (fun x hx => by have := acts_small l part k x hx; omega)]
      obtain ⟨y, hy, he⟩ := actOf_mem (i := k) hh
      rw [hy, idxA, if_pos he]; simp
    · have ih := idx_acts l part hh n (by omega)
      rw [idxA_hit _ _ _ _ ?_, ih]
      -- the act of k is among those below n
      have : ∀ n, k < n → ∃ x ∈ acts l part n, x.2 = (k : Int) := by
        intro n
        induction n with
        | zero => intro h; omega
        | succ n ihn =>
          intro h
          simp only [acts, List.mem_append]
          by_cases e : k = n
          · subst e
            obtain ⟨y, hy, he⟩ := actOf_mem (i := k) hh
            exact ⟨y, .inr (by rw [show actOf part (l.getD k (0, 0, 0)) k = [y] from hy]; simp), he⟩
          · obtain ⟨x, hx, he⟩ := ihn (by omega)
            exact ⟨x, .inl hx, he⟩
      exact this n (by omega)

end Go.Proofs.Ytnohdfhhblhfhaa
