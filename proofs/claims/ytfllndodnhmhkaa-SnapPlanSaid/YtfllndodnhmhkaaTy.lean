/-
  DERIVED by gen_ty.py: what the program says of its types, a lemma each.
-/
import Derived.Test.YtfllndodnhmhkaaChecked
import Derived.Test.YtfllndodnhmhkaaAbD
import Derived.KernelRfl
namespace Go.Proofs.Ytfllndodnhmhkaa
open Go.Ab
set_option linter.unusedSimpArgs false

noncomputable def tt : TypeId → Option TI := ttOf Try.prog
theorem ttok : TTok Try.prog tt := ttOf_ok _
noncomputable def fl (T : TypeId) : Array Field := flOf Try.prog T
noncomputable def fd (T : TypeId) (k : Nat) : Field := (fl T).getD k default

theorem tt1 : tt 1 = some ⟨.func #[] #[] false, 1, 8, .nilFunc, false⟩ := by kernel_rfl
theorem tt2 : tt 2 = some ⟨.int .i64, 1, 8, .int .i64 0, false⟩ := by kernel_rfl
theorem tt3 : tt 3 = some ⟨.int .i64, 1, 8, .int .i64 0, false⟩ := by kernel_rfl
theorem tt4 : tt 4 = some ⟨.bool, 1, 1, .bool false, false⟩ := by kernel_rfl
theorem tt5 : tt 5 = some ⟨.int .u8, 1, 1, .int .u8 0, false⟩ := by kernel_rfl
theorem tt6 : tt 6 = some ⟨.int .u8, 1, 1, .int .u8 0, false⟩ := by kernel_rfl
theorem tt7 : tt 7 = some ⟨.struct (fl 7), 4, 24, .agg #[.int .i64 0, .int .i64 0, .bool false, .int .u8 0], false⟩ := by kernel_rfl
theorem zc7 : (Value.agg #[.int .i64 0, .int .i64 0, .bool false, .int .u8 0]).cells.toList = [.int .i64 0, .int .i64 0, .bool false, .int .u8 0] := by kernel_rfl
theorem fll7 : (fl 7).toList = [fd 7 0, fd 7 1, fd 7 2, fd 7 3] := by kernel_rfl
theorem fl7_0 : (fl 7)[0]? = some (fd 7 0) := by kernel_rfl
theorem fdt7_0 : (fd 7 0).type = 2 := by kernel_rfl
theorem fdo7_0 : (fd 7 0).offset = 0 := by kernel_rfl
theorem fl7_1 : (fl 7)[1]? = some (fd 7 1) := by kernel_rfl
theorem fdt7_1 : (fd 7 1).type = 3 := by kernel_rfl
theorem fdo7_1 : (fd 7 1).offset = 1 := by kernel_rfl
theorem fl7_2 : (fl 7)[2]? = some (fd 7 2) := by kernel_rfl
theorem fdt7_2 : (fd 7 2).type = 4 := by kernel_rfl
theorem fdo7_2 : (fd 7 2).offset = 2 := by kernel_rfl
theorem fl7_3 : (fl 7)[3]? = some (fd 7 3) := by kernel_rfl
theorem fdt7_3 : (fd 7 3).type = 6 := by kernel_rfl
theorem fdo7_3 : (fd 7 3).offset = 3 := by kernel_rfl
theorem tt8 : tt 8 = some ⟨.struct (fl 8), 4, 24, .agg #[.int .i64 0, .int .i64 0, .bool false, .int .u8 0], false⟩ := by kernel_rfl
theorem fll8 : (fl 8).toList = [fd 8 0, fd 8 1, fd 8 2, fd 8 3] := by kernel_rfl
theorem fl8_0 : (fl 8)[0]? = some (fd 8 0) := by kernel_rfl
theorem fdt8_0 : (fd 8 0).type = 2 := by kernel_rfl
theorem fdo8_0 : (fd 8 0).offset = 0 := by kernel_rfl
theorem fl8_1 : (fl 8)[1]? = some (fd 8 1) := by kernel_rfl
theorem fdt8_1 : (fd 8 1).type = 3 := by kernel_rfl
theorem fdo8_1 : (fd 8 1).offset = 1 := by kernel_rfl
theorem fl8_2 : (fl 8)[2]? = some (fd 8 2) := by kernel_rfl
theorem fdt8_2 : (fd 8 2).type = 4 := by kernel_rfl
theorem fdo8_2 : (fd 8 2).offset = 2 := by kernel_rfl
theorem fl8_3 : (fl 8)[3]? = some (fd 8 3) := by kernel_rfl
theorem fdt8_3 : (fd 8 3).type = 6 := by kernel_rfl
theorem fdo8_3 : (fd 8 3).offset = 3 := by kernel_rfl
theorem tt9 : tt 9 = some ⟨.string, 1, 16, .string ByteArray.empty, false⟩ := by kernel_rfl
theorem tt10 : tt 10 = some ⟨.string, 1, 16, .string ByteArray.empty, false⟩ := by kernel_rfl
theorem tt11 : tt 11 = some ⟨.string, 1, 16, .string ByteArray.empty, false⟩ := by kernel_rfl
theorem tt12 : tt 12 = some ⟨.int .u64, 1, 8, .int .u64 0, false⟩ := by kernel_rfl
theorem tt13 : tt 13 = some ⟨.struct (fl 13), 2, 24, .agg #[.string ByteArray.empty, .int .u64 0], false⟩ := by kernel_rfl
theorem zc13 : (Value.agg #[.string ByteArray.empty, .int .u64 0]).cells.toList = [.string ByteArray.empty, .int .u64 0] := by kernel_rfl
theorem fll13 : (fl 13).toList = [fd 13 0, fd 13 1] := by kernel_rfl
theorem fl13_0 : (fl 13)[0]? = some (fd 13 0) := by kernel_rfl
theorem fdt13_0 : (fd 13 0).type = 9 := by kernel_rfl
theorem fdo13_0 : (fd 13 0).offset = 0 := by kernel_rfl
theorem fl13_1 : (fl 13)[1]? = some (fd 13 1) := by kernel_rfl
theorem fdt13_1 : (fd 13 1).type = 12 := by kernel_rfl
theorem fdo13_1 : (fd 13 1).offset = 1 := by kernel_rfl
theorem tt14 : tt 14 = some ⟨.struct (fl 14), 2, 24, .agg #[.string ByteArray.empty, .int .u64 0], false⟩ := by kernel_rfl
theorem fll14 : (fl 14).toList = [fd 14 0, fd 14 1] := by kernel_rfl
theorem fl14_0 : (fl 14)[0]? = some (fd 14 0) := by kernel_rfl
theorem fdt14_0 : (fd 14 0).type = 9 := by kernel_rfl
theorem fdo14_0 : (fd 14 0).offset = 0 := by kernel_rfl
theorem fl14_1 : (fl 14)[1]? = some (fd 14 1) := by kernel_rfl
theorem fdt14_1 : (fd 14 1).type = 12 := by kernel_rfl
theorem fdo14_1 : (fd 14 1).offset = 1 := by kernel_rfl
theorem tt15 : tt 15 = some ⟨.pointer 97, 1, 8, .pointer none, false⟩ := by kernel_rfl
theorem tt16 : tt 16 = some ⟨.pointer 100, 1, 8, .pointer none, false⟩ := by kernel_rfl
theorem tt17 : tt 17 = some ⟨.pointer 108, 1, 8, .pointer none, false⟩ := by kernel_rfl
theorem tt18 : tt 18 = some ⟨.struct (fl 18), 1, 8, .agg #[.pointer none], false⟩ := by kernel_rfl
theorem zc18 : (Value.agg #[.pointer none]).cells.toList = [.pointer none] := by kernel_rfl
theorem fll18 : (fl 18).toList = [fd 18 0] := by kernel_rfl
theorem fl18_0 : (fl 18)[0]? = some (fd 18 0) := by kernel_rfl
theorem fdt18_0 : (fd 18 0).type = 17 := by kernel_rfl
theorem fdo18_0 : (fd 18 0).offset = 0 := by kernel_rfl
theorem tt19 : tt 19 = some ⟨.struct (fl 19), 1, 8, .agg #[.pointer none], false⟩ := by kernel_rfl
theorem fll19 : (fl 19).toList = [fd 19 0] := by kernel_rfl
theorem fl19_0 : (fl 19)[0]? = some (fd 19 0) := by kernel_rfl
theorem fdt19_0 : (fd 19 0).type = 17 := by kernel_rfl
theorem fdo19_0 : (fd 19 0).offset = 0 := by kernel_rfl
theorem tt21 : tt 21 = some ⟨.int .i32, 1, 4, .int .i32 0, false⟩ := by kernel_rfl
theorem tt22 : tt 22 = some ⟨.slice 25, 1, 24, .slice none 0 0, false⟩ := by kernel_rfl
theorem tt23 : tt 23 = some ⟨.pointer 68, 1, 8, .pointer none, false⟩ := by kernel_rfl
theorem tt24 : tt 24 = some ⟨.func #[3] #[23] false, 1, 8, .nilFunc, false⟩ := by kernel_rfl
theorem tt25 : tt 25 = some ⟨.slice 5, 1, 24, .slice none 0 0, false⟩ := by kernel_rfl
theorem tt26 : tt 26 = some ⟨.func #[25] #[25] false, 1, 8, .nilFunc, false⟩ := by kernel_rfl
theorem tt27 : tt 27 = some ⟨.slice 32, 1, 24, .slice none 0 0, false⟩ := by kernel_rfl
theorem tt29 : tt 29 = some ⟨.func #[25] #[27, 4] false, 1, 8, .nilFunc, false⟩ := by kernel_rfl
theorem tt30 : tt 30 = some ⟨.func #[] #[3] false, 1, 8, .nilFunc, false⟩ := by kernel_rfl
theorem tt31 : tt 31 = some ⟨.struct (fl 31), 2, 32, .agg #[.int .i64 0, .slice none 0 0], false⟩ := by kernel_rfl
theorem zc31 : (Value.agg #[.int .i64 0, .slice none 0 0]).cells.toList = [.int .i64 0, .slice none 0 0] := by kernel_rfl
theorem fll31 : (fl 31).toList = [fd 31 0, fd 31 1] := by kernel_rfl
theorem fl31_0 : (fl 31)[0]? = some (fd 31 0) := by kernel_rfl
theorem fdt31_0 : (fd 31 0).type = 3 := by kernel_rfl
theorem fdo31_0 : (fd 31 0).offset = 0 := by kernel_rfl
theorem fl31_1 : (fl 31)[1]? = some (fd 31 1) := by kernel_rfl
theorem fdt31_1 : (fd 31 1).type = 25 := by kernel_rfl
theorem fdo31_1 : (fd 31 1).offset = 1 := by kernel_rfl
theorem tt32 : tt 32 = some ⟨.struct (fl 32), 2, 32, .agg #[.int .i64 0, .slice none 0 0], false⟩ := by kernel_rfl
theorem fll32 : (fl 32).toList = [fd 32 0, fd 32 1] := by kernel_rfl
theorem fl32_0 : (fl 32)[0]? = some (fd 32 0) := by kernel_rfl
theorem fdt32_0 : (fd 32 0).type = 3 := by kernel_rfl
theorem fdo32_0 : (fd 32 0).offset = 0 := by kernel_rfl
theorem fl32_1 : (fl 32)[1]? = some (fd 32 1) := by kernel_rfl
theorem fdt32_1 : (fd 32 1).type = 25 := by kernel_rfl
theorem fdo32_1 : (fd 32 1).offset = 1 := by kernel_rfl
theorem tt33 : tt 33 = some ⟨.func #[] #[27] false, 1, 8, .nilFunc, false⟩ := by kernel_rfl
theorem tt34 : tt 34 = some ⟨.func #[] #[22] false, 1, 8, .nilFunc, false⟩ := by kernel_rfl
theorem tt35 : tt 35 = some ⟨.func #[] #[4] false, 1, 8, .nilFunc, false⟩ := by kernel_rfl
theorem tt36 : tt 36 = some ⟨.func #[3, 22] #[4] false, 1, 8, .nilFunc, false⟩ := by kernel_rfl
theorem tt37 : tt 37 = some ⟨.func #[3, 25] #[23] false, 1, 8, .nilFunc, false⟩ := by kernel_rfl
theorem tt38 : tt 38 = some ⟨.func #[22, 25, 3] #[4] false, 1, 8, .nilFunc, false⟩ := by kernel_rfl
theorem tt39 : tt 39 = some ⟨.slice 52, 1, 24, .slice none 0 0, false⟩ := by kernel_rfl
theorem tt40 : tt 40 = some ⟨.slice 3, 1, 24, .slice none 0 0, false⟩ := by kernel_rfl
theorem tt41 : tt 41 = some ⟨.struct (fl 41), 4, 64, .agg #[.int .i64 0, .int .i64 0, .slice none 0 0, .slice none 0 0], false⟩ := by kernel_rfl
theorem zc41 : (Value.agg #[.int .i64 0, .int .i64 0, .slice none 0 0, .slice none 0 0]).cells.toList = [.int .i64 0, .int .i64 0, .slice none 0 0, .slice none 0 0] := by kernel_rfl
theorem fll41 : (fl 41).toList = [fd 41 0, fd 41 1, fd 41 2, fd 41 3] := by kernel_rfl
theorem fl41_0 : (fl 41)[0]? = some (fd 41 0) := by kernel_rfl
theorem fdt41_0 : (fd 41 0).type = 3 := by kernel_rfl
theorem fdo41_0 : (fd 41 0).offset = 0 := by kernel_rfl
theorem fl41_1 : (fl 41)[1]? = some (fd 41 1) := by kernel_rfl
theorem fdt41_1 : (fd 41 1).type = 3 := by kernel_rfl
theorem fdo41_1 : (fd 41 1).offset = 1 := by kernel_rfl
theorem fl41_2 : (fl 41)[2]? = some (fd 41 2) := by kernel_rfl
theorem fdt41_2 : (fd 41 2).type = 39 := by kernel_rfl
theorem fdo41_2 : (fd 41 2).offset = 2 := by kernel_rfl
theorem fl41_3 : (fl 41)[3]? = some (fd 41 3) := by kernel_rfl
theorem fdt41_3 : (fd 41 3).type = 40 := by kernel_rfl
theorem fdo41_3 : (fd 41 3).offset = 3 := by kernel_rfl
theorem tt42 : tt 42 = some ⟨.struct (fl 42), 4, 64, .agg #[.int .i64 0, .int .i64 0, .slice none 0 0, .slice none 0 0], false⟩ := by kernel_rfl
theorem fll42 : (fl 42).toList = [fd 42 0, fd 42 1, fd 42 2, fd 42 3] := by kernel_rfl
theorem fl42_0 : (fl 42)[0]? = some (fd 42 0) := by kernel_rfl
theorem fdt42_0 : (fd 42 0).type = 3 := by kernel_rfl
theorem fdo42_0 : (fd 42 0).offset = 0 := by kernel_rfl
theorem fl42_1 : (fl 42)[1]? = some (fd 42 1) := by kernel_rfl
theorem fdt42_1 : (fd 42 1).type = 3 := by kernel_rfl
theorem fdo42_1 : (fd 42 1).offset = 1 := by kernel_rfl
theorem fl42_2 : (fl 42)[2]? = some (fd 42 2) := by kernel_rfl
theorem fdt42_2 : (fd 42 2).type = 39 := by kernel_rfl
theorem fdo42_2 : (fd 42 2).offset = 2 := by kernel_rfl
theorem fl42_3 : (fl 42)[3]? = some (fd 42 3) := by kernel_rfl
theorem fdt42_3 : (fd 42 3).type = 40 := by kernel_rfl
theorem fdo42_3 : (fd 42 3).offset = 3 := by kernel_rfl
theorem tt43 : tt 43 = some ⟨.array 2 3, 2, 16, .agg #[.int .i64 0, .int .i64 0], false⟩ := by kernel_rfl
theorem zc43 : (Value.agg #[.int .i64 0, .int .i64 0]).cells.toList = [.int .i64 0, .int .i64 0] := by kernel_rfl
theorem tt44 : tt 44 = some ⟨.func #[3, 42] #[25] false, 1, 8, .nilFunc, false⟩ := by kernel_rfl
theorem tt45 : tt 45 = some ⟨.func #[42] #[42] false, 1, 8, .nilFunc, false⟩ := by kernel_rfl
theorem tt46 : tt 46 = some ⟨.int .u64, 1, 8, .int .u64 0, false⟩ := by kernel_rfl
theorem tt48 : tt 48 = some ⟨.func #[25] #[3, 42, 4] false, 1, 8, .nilFunc, false⟩ := by kernel_rfl
theorem tt49 : tt 49 = some ⟨.func #[42] #[4] false, 1, 8, .nilFunc, false⟩ := by kernel_rfl
theorem tt50 : tt 50 = some ⟨.func #[42, 43, 25] #[4] false, 1, 8, .nilFunc, false⟩ := by kernel_rfl
theorem tt51 : tt 51 = some ⟨.struct (fl 51), 2, 32, .agg #[.int .i64 0, .slice none 0 0], false⟩ := by kernel_rfl
theorem fll51 : (fl 51).toList = [fd 51 0, fd 51 1] := by kernel_rfl
theorem fl51_0 : (fl 51)[0]? = some (fd 51 0) := by kernel_rfl
theorem fdt51_0 : (fd 51 0).type = 3 := by kernel_rfl
theorem fdo51_0 : (fd 51 0).offset = 0 := by kernel_rfl
theorem fl51_1 : (fl 51)[1]? = some (fd 51 1) := by kernel_rfl
theorem fdt51_1 : (fd 51 1).type = 40 := by kernel_rfl
theorem fdo51_1 : (fd 51 1).offset = 1 := by kernel_rfl
theorem tt52 : tt 52 = some ⟨.struct (fl 52), 2, 32, .agg #[.int .i64 0, .slice none 0 0], false⟩ := by kernel_rfl
theorem fll52 : (fl 52).toList = [fd 52 0, fd 52 1] := by kernel_rfl
theorem fl52_0 : (fl 52)[0]? = some (fd 52 0) := by kernel_rfl
theorem fdt52_0 : (fd 52 0).type = 3 := by kernel_rfl
theorem fdo52_0 : (fd 52 0).offset = 0 := by kernel_rfl
theorem fl52_1 : (fl 52)[1]? = some (fd 52 1) := by kernel_rfl
theorem fdt52_1 : (fd 52 1).type = 40 := by kernel_rfl
theorem fdo52_1 : (fd 52 1).offset = 1 := by kernel_rfl
theorem tt53 : tt 53 = some ⟨.func #[42, 3] #[4] false, 1, 8, .nilFunc, false⟩ := by kernel_rfl
theorem tt54 : tt 54 = some ⟨.func #[25, 55] #[25] false, 1, 8, .nilFunc, false⟩ := by kernel_rfl
theorem tt55 : tt 55 = some ⟨.int .u32, 1, 4, .int .u32 0, false⟩ := by kernel_rfl
theorem tt56 : tt 56 = some ⟨.func #[25] #[55] false, 1, 8, .nilFunc, false⟩ := by kernel_rfl
theorem tt57 : tt 57 = some ⟨.func #[3] #[25] false, 1, 8, .nilFunc, false⟩ := by kernel_rfl
theorem tt59 : tt 59 = some ⟨.func #[25] #[3, 4] false, 1, 8, .nilFunc, false⟩ := by kernel_rfl
theorem tt60 : tt 60 = some ⟨.func #[3, 3, 3] #[4] false, 1, 8, .nilFunc, false⟩ := by kernel_rfl
theorem tt61 : tt 61 = some ⟨.func #[42, 42] #[4] false, 1, 8, .nilFunc, false⟩ := by kernel_rfl
theorem tt62 : tt 62 = some ⟨.func #[3, 42] #[9] false, 1, 8, .nilFunc, false⟩ := by kernel_rfl
theorem tt63 : tt 63 = some ⟨.func #[3, 42] #[4] false, 1, 8, .nilFunc, false⟩ := by kernel_rfl
theorem tt65 : tt 65 = some ⟨.func #[3, 3, 42] #[27, 23, 4] false, 1, 8, .nilFunc, false⟩ := by kernel_rfl
theorem tt66 : tt 66 = some ⟨.func #[3, 3, 42] #[4] false, 1, 8, .nilFunc, false⟩ := by kernel_rfl
theorem tt67 : tt 67 = some ⟨.struct (fl 67), 3, 40, .agg #[.int .i64 0, .slice none 0 0, .int .i64 0], false⟩ := by kernel_rfl
theorem zc67 : (Value.agg #[.int .i64 0, .slice none 0 0, .int .i64 0]).cells.toList = [.int .i64 0, .slice none 0 0, .int .i64 0] := by kernel_rfl
theorem fll67 : (fl 67).toList = [fd 67 0, fd 67 1, fd 67 2] := by kernel_rfl
theorem fl67_0 : (fl 67)[0]? = some (fd 67 0) := by kernel_rfl
theorem fdt67_0 : (fd 67 0).type = 3 := by kernel_rfl
theorem fdo67_0 : (fd 67 0).offset = 0 := by kernel_rfl
theorem fl67_1 : (fl 67)[1]? = some (fd 67 1) := by kernel_rfl
theorem fdt67_1 : (fd 67 1).type = 25 := by kernel_rfl
theorem fdo67_1 : (fd 67 1).offset = 1 := by kernel_rfl
theorem fl67_2 : (fl 67)[2]? = some (fd 67 2) := by kernel_rfl
theorem fdt67_2 : (fd 67 2).type = 3 := by kernel_rfl
theorem fdo67_2 : (fd 67 2).offset = 2 := by kernel_rfl
theorem tt68 : tt 68 = some ⟨.struct (fl 68), 3, 40, .agg #[.int .i64 0, .slice none 0 0, .int .i64 0], false⟩ := by kernel_rfl
theorem fll68 : (fl 68).toList = [fd 68 0, fd 68 1, fd 68 2] := by kernel_rfl
theorem fl68_0 : (fl 68)[0]? = some (fd 68 0) := by kernel_rfl
theorem fdt68_0 : (fd 68 0).type = 3 := by kernel_rfl
theorem fdo68_0 : (fd 68 0).offset = 0 := by kernel_rfl
theorem fl68_1 : (fl 68)[1]? = some (fd 68 1) := by kernel_rfl
theorem fdt68_1 : (fd 68 1).type = 25 := by kernel_rfl
theorem fdo68_1 : (fd 68 1).offset = 1 := by kernel_rfl
theorem fl68_2 : (fl 68)[2]? = some (fd 68 2) := by kernel_rfl
theorem fdt68_2 : (fd 68 2).type = 3 := by kernel_rfl
theorem fdo68_2 : (fd 68 2).offset = 2 := by kernel_rfl
theorem tt69 : tt 69 = some ⟨.func #[3] #[32] false, 1, 8, .nilFunc, false⟩ := by kernel_rfl
theorem tt71 : tt 71 = some ⟨.func #[25] #[22, 3] false, 1, 8, .nilFunc, false⟩ := by kernel_rfl
theorem tt72 : tt 72 = some ⟨.array 4 3, 4, 32, .agg #[.int .i64 0, .int .i64 0, .int .i64 0, .int .i64 0], false⟩ := by kernel_rfl
theorem zc72 : (Value.agg #[.int .i64 0, .int .i64 0, .int .i64 0, .int .i64 0]).cells.toList = [.int .i64 0, .int .i64 0, .int .i64 0, .int .i64 0] := by kernel_rfl
theorem tt73 : tt 73 = some ⟨.func #[25, 3] #[25] false, 1, 8, .nilFunc, false⟩ := by kernel_rfl
theorem tt74 : tt 74 = some ⟨.pointer 76, 1, 8, .pointer none, false⟩ := by kernel_rfl
theorem tt75 : tt 75 = some ⟨.struct (fl 75), 2, 32, .agg #[.slice none 0 0, .bool false], false⟩ := by kernel_rfl
theorem zc75 : (Value.agg #[.slice none 0 0, .bool false]).cells.toList = [.slice none 0 0, .bool false] := by kernel_rfl
theorem fll75 : (fl 75).toList = [fd 75 0, fd 75 1] := by kernel_rfl
theorem fl75_0 : (fl 75)[0]? = some (fd 75 0) := by kernel_rfl
theorem fdt75_0 : (fd 75 0).type = 25 := by kernel_rfl
theorem fdo75_0 : (fd 75 0).offset = 0 := by kernel_rfl
theorem fl75_1 : (fl 75)[1]? = some (fd 75 1) := by kernel_rfl
theorem fdt75_1 : (fd 75 1).type = 4 := by kernel_rfl
theorem fdo75_1 : (fd 75 1).offset = 1 := by kernel_rfl
theorem tt76 : tt 76 = some ⟨.struct (fl 76), 2, 32, .agg #[.slice none 0 0, .bool false], false⟩ := by kernel_rfl
theorem fll76 : (fl 76).toList = [fd 76 0, fd 76 1] := by kernel_rfl
theorem fl76_0 : (fl 76)[0]? = some (fd 76 0) := by kernel_rfl
theorem fdt76_0 : (fd 76 0).type = 25 := by kernel_rfl
theorem fdo76_0 : (fd 76 0).offset = 0 := by kernel_rfl
theorem fl76_1 : (fl 76)[1]? = some (fd 76 1) := by kernel_rfl
theorem fdt76_1 : (fd 76 1).type = 4 := by kernel_rfl
theorem fdo76_1 : (fd 76 1).offset = 1 := by kernel_rfl
theorem tt77 : tt 77 = some ⟨.func #[3] #[4] false, 1, 8, .nilFunc, false⟩ := by kernel_rfl
theorem tt78 : tt 78 = some ⟨.func #[40, 77] #[4] false, 1, 8, .nilFunc, false⟩ := by kernel_rfl
theorem tt79 : tt 79 = some ⟨.func #[55, 5] #[55] false, 1, 8, .nilFunc, false⟩ := by kernel_rfl
theorem tt80 : tt 80 = some ⟨.func #[9, 9] #[4] false, 1, 8, .nilFunc, false⟩ := by kernel_rfl
theorem tt82 : tt 82 = some ⟨.func #[25, 3] #[55, 4] false, 1, 8, .nilFunc, false⟩ := by kernel_rfl
theorem tt83 : tt 83 = some ⟨.func #[39] #[39] false, 1, 8, .nilFunc, false⟩ := by kernel_rfl
theorem tt84 : tt 84 = some ⟨.func #[40] #[40] false, 1, 8, .nilFunc, false⟩ := by kernel_rfl
theorem tt85 : tt 85 = some ⟨.func #[40, 40] #[4] false, 1, 8, .nilFunc, false⟩ := by kernel_rfl
theorem tt86 : tt 86 = some ⟨.func #[39, 39, 87] #[4] false, 1, 8, .nilFunc, false⟩ := by kernel_rfl
theorem tt87 : tt 87 = some ⟨.func #[52, 52] #[4] false, 1, 8, .nilFunc, false⟩ := by kernel_rfl
theorem tt88 : tt 88 = some ⟨.int .i64, 1, 8, .int .i64 0, false⟩ := by kernel_rfl
theorem tt90 : tt 90 = some ⟨.func #[25, 3] #[25, 3, 88] false, 1, 8, .nilFunc, false⟩ := by kernel_rfl
theorem tt92 : tt 92 = some ⟨.func #[25] #[3, 3] false, 1, 8, .nilFunc, false⟩ := by kernel_rfl
theorem tt93 : tt 93 = some ⟨.func #[40, 77] #[3] false, 1, 8, .nilFunc, false⟩ := by kernel_rfl
theorem tt94 : tt 94 = some ⟨.func #[3] #[3] false, 1, 8, .nilFunc, false⟩ := by kernel_rfl
theorem tt95 : tt 95 = some ⟨.func #[] #[9] false, 1, 8, .nilFunc, false⟩ := by kernel_rfl
theorem tt96 : tt 96 = some ⟨.struct (fl 96), 4, 40, .agg #[.pointer none, .pointer none, .pointer none, .string ByteArray.empty], false⟩ := by kernel_rfl
theorem zc96 : (Value.agg #[.pointer none, .pointer none, .pointer none, .string ByteArray.empty]).cells.toList = [.pointer none, .pointer none, .pointer none, .string ByteArray.empty] := by kernel_rfl
theorem fll96 : (fl 96).toList = [fd 96 0, fd 96 1, fd 96 2, fd 96 3] := by kernel_rfl
theorem fl96_0 : (fl 96)[0]? = some (fd 96 0) := by kernel_rfl
theorem fdt96_0 : (fd 96 0).type = 17 := by kernel_rfl
theorem fdo96_0 : (fd 96 0).offset = 0 := by kernel_rfl
theorem fl96_1 : (fl 96)[1]? = some (fd 96 1) := by kernel_rfl
theorem fdt96_1 : (fd 96 1).type = 17 := by kernel_rfl
theorem fdo96_1 : (fd 96 1).offset = 1 := by kernel_rfl
theorem fl96_2 : (fl 96)[2]? = some (fd 96 2) := by kernel_rfl
theorem fdt96_2 : (fd 96 2).type = 17 := by kernel_rfl
theorem fdo96_2 : (fd 96 2).offset = 2 := by kernel_rfl
theorem fl96_3 : (fl 96)[3]? = some (fd 96 3) := by kernel_rfl
theorem fdt96_3 : (fd 96 3).type = 9 := by kernel_rfl
theorem fdo96_3 : (fd 96 3).offset = 3 := by kernel_rfl
theorem tt97 : tt 97 = some ⟨.struct (fl 97), 4, 40, .agg #[.pointer none, .pointer none, .pointer none, .string ByteArray.empty], false⟩ := by kernel_rfl
theorem fll97 : (fl 97).toList = [fd 97 0, fd 97 1, fd 97 2, fd 97 3] := by kernel_rfl
theorem fl97_0 : (fl 97)[0]? = some (fd 97 0) := by kernel_rfl
theorem fdt97_0 : (fd 97 0).type = 17 := by kernel_rfl
theorem fdo97_0 : (fd 97 0).offset = 0 := by kernel_rfl
theorem fl97_1 : (fl 97)[1]? = some (fd 97 1) := by kernel_rfl
theorem fdt97_1 : (fd 97 1).type = 17 := by kernel_rfl
theorem fdo97_1 : (fd 97 1).offset = 1 := by kernel_rfl
theorem fl97_2 : (fl 97)[2]? = some (fd 97 2) := by kernel_rfl
theorem fdt97_2 : (fd 97 2).type = 17 := by kernel_rfl
theorem fdo97_2 : (fd 97 2).offset = 2 := by kernel_rfl
theorem fl97_3 : (fl 97)[3]? = some (fd 97 3) := by kernel_rfl
theorem fdt97_3 : (fd 97 3).type = 9 := by kernel_rfl
theorem fdo97_3 : (fd 97 3).offset = 3 := by kernel_rfl
theorem tt101 : tt 101 = some ⟨.int .u8, 1, 1, .int .u8 0, false⟩ := by kernel_rfl
theorem tt102 : tt 102 = some ⟨.int .u8, 1, 1, .int .u8 0, false⟩ := by kernel_rfl
theorem tt103 : tt 103 = some ⟨.func #[109, 109] #[4] false, 1, 8, .nilFunc, false⟩ := by kernel_rfl
theorem tt104 : tt 104 = some ⟨.pointer 5, 1, 8, .pointer none, false⟩ := by kernel_rfl
theorem tt105 : tt 105 = some ⟨.int .i32, 1, 4, .int .i32 0, false⟩ := by kernel_rfl
theorem tt106 : tt 106 = some ⟨.int .i32, 1, 4, .int .i32 0, false⟩ := by kernel_rfl
theorem tt107 : tt 107 = some ⟨.struct (fl 107), 11, 48, .agg #[.int .u64 0, .int .u64 0, .int .u32 0, .int .u8 0, .int .u8 0, .int .u8 0, .int .u8 0, .nilFunc, .pointer none, .int .i32 0, .int .i32 0], false⟩ := by kernel_rfl
theorem zc107 : (Value.agg #[.int .u64 0, .int .u64 0, .int .u32 0, .int .u8 0, .int .u8 0, .int .u8 0, .int .u8 0, .nilFunc, .pointer none, .int .i32 0, .int .i32 0]).cells.toList = [.int .u64 0, .int .u64 0, .int .u32 0, .int .u8 0, .int .u8 0, .int .u8 0, .int .u8 0, .nilFunc, .pointer none, .int .i32 0, .int .i32 0] := by kernel_rfl
theorem fll107 : (fl 107).toList = [fd 107 0, fd 107 1, fd 107 2, fd 107 3, fd 107 4, fd 107 5, fd 107 6, fd 107 7, fd 107 8, fd 107 9, fd 107 10] := by kernel_rfl
theorem fl107_0 : (fl 107)[0]? = some (fd 107 0) := by kernel_rfl
theorem fdt107_0 : (fd 107 0).type = 12 := by kernel_rfl
theorem fdo107_0 : (fd 107 0).offset = 0 := by kernel_rfl
theorem fl107_1 : (fl 107)[1]? = some (fd 107 1) := by kernel_rfl
theorem fdt107_1 : (fd 107 1).type = 12 := by kernel_rfl
theorem fdo107_1 : (fd 107 1).offset = 1 := by kernel_rfl
theorem fl107_2 : (fl 107)[2]? = some (fd 107 2) := by kernel_rfl
theorem fdt107_2 : (fd 107 2).type = 55 := by kernel_rfl
theorem fdo107_2 : (fd 107 2).offset = 2 := by kernel_rfl
theorem fl107_3 : (fl 107)[3]? = some (fd 107 3) := by kernel_rfl
theorem fdt107_3 : (fd 107 3).type = 101 := by kernel_rfl
theorem fdo107_3 : (fd 107 3).offset = 3 := by kernel_rfl
theorem fl107_4 : (fl 107)[4]? = some (fd 107 4) := by kernel_rfl
theorem fdt107_4 : (fd 107 4).type = 5 := by kernel_rfl
theorem fdo107_4 : (fd 107 4).offset = 4 := by kernel_rfl
theorem fl107_5 : (fl 107)[5]? = some (fd 107 5) := by kernel_rfl
theorem fdt107_5 : (fd 107 5).type = 5 := by kernel_rfl
theorem fdo107_5 : (fd 107 5).offset = 5 := by kernel_rfl
theorem fl107_6 : (fl 107)[6]? = some (fd 107 6) := by kernel_rfl
theorem fdt107_6 : (fd 107 6).type = 102 := by kernel_rfl
theorem fdo107_6 : (fd 107 6).offset = 6 := by kernel_rfl
theorem fl107_7 : (fl 107)[7]? = some (fd 107 7) := by kernel_rfl
theorem fdt107_7 : (fd 107 7).type = 103 := by kernel_rfl
theorem fdo107_7 : (fd 107 7).offset = 7 := by kernel_rfl
theorem fl107_8 : (fl 107)[8]? = some (fd 107 8) := by kernel_rfl
theorem fdt107_8 : (fd 107 8).type = 104 := by kernel_rfl
theorem fdo107_8 : (fd 107 8).offset = 8 := by kernel_rfl
theorem fl107_9 : (fl 107)[9]? = some (fd 107 9) := by kernel_rfl
theorem fdt107_9 : (fd 107 9).type = 105 := by kernel_rfl
theorem fdo107_9 : (fd 107 9).offset = 9 := by kernel_rfl
theorem fl107_10 : (fl 107)[10]? = some (fd 107 10) := by kernel_rfl
theorem fdt107_10 : (fd 107 10).type = 106 := by kernel_rfl
theorem fdo107_10 : (fd 107 10).offset = 10 := by kernel_rfl
theorem tt108 : tt 108 = some ⟨.struct (fl 108), 11, 48, .agg #[.int .u64 0, .int .u64 0, .int .u32 0, .int .u8 0, .int .u8 0, .int .u8 0, .int .u8 0, .nilFunc, .pointer none, .int .i32 0, .int .i32 0], false⟩ := by kernel_rfl
theorem fll108 : (fl 108).toList = [fd 108 0, fd 108 1, fd 108 2, fd 108 3, fd 108 4, fd 108 5, fd 108 6, fd 108 7, fd 108 8, fd 108 9, fd 108 10] := by kernel_rfl
theorem fl108_0 : (fl 108)[0]? = some (fd 108 0) := by kernel_rfl
theorem fdt108_0 : (fd 108 0).type = 12 := by kernel_rfl
theorem fdo108_0 : (fd 108 0).offset = 0 := by kernel_rfl
theorem fl108_1 : (fl 108)[1]? = some (fd 108 1) := by kernel_rfl
theorem fdt108_1 : (fd 108 1).type = 12 := by kernel_rfl
theorem fdo108_1 : (fd 108 1).offset = 1 := by kernel_rfl
theorem fl108_2 : (fl 108)[2]? = some (fd 108 2) := by kernel_rfl
theorem fdt108_2 : (fd 108 2).type = 55 := by kernel_rfl
theorem fdo108_2 : (fd 108 2).offset = 2 := by kernel_rfl
theorem fl108_3 : (fl 108)[3]? = some (fd 108 3) := by kernel_rfl
theorem fdt108_3 : (fd 108 3).type = 101 := by kernel_rfl
theorem fdo108_3 : (fd 108 3).offset = 3 := by kernel_rfl
theorem fl108_4 : (fl 108)[4]? = some (fd 108 4) := by kernel_rfl
theorem fdt108_4 : (fd 108 4).type = 5 := by kernel_rfl
theorem fdo108_4 : (fd 108 4).offset = 4 := by kernel_rfl
theorem fl108_5 : (fl 108)[5]? = some (fd 108 5) := by kernel_rfl
theorem fdt108_5 : (fd 108 5).type = 5 := by kernel_rfl
theorem fdo108_5 : (fd 108 5).offset = 5 := by kernel_rfl
theorem fl108_6 : (fl 108)[6]? = some (fd 108 6) := by kernel_rfl
theorem fdt108_6 : (fd 108 6).type = 102 := by kernel_rfl
theorem fdo108_6 : (fd 108 6).offset = 6 := by kernel_rfl
theorem fl108_7 : (fl 108)[7]? = some (fd 108 7) := by kernel_rfl
theorem fdt108_7 : (fd 108 7).type = 103 := by kernel_rfl
theorem fdo108_7 : (fd 108 7).offset = 7 := by kernel_rfl
theorem fl108_8 : (fl 108)[8]? = some (fd 108 8) := by kernel_rfl
theorem fdt108_8 : (fd 108 8).type = 104 := by kernel_rfl
theorem fdo108_8 : (fd 108 8).offset = 8 := by kernel_rfl
theorem fl108_9 : (fl 108)[9]? = some (fd 108 9) := by kernel_rfl
theorem fdt108_9 : (fd 108 9).type = 105 := by kernel_rfl
theorem fdo108_9 : (fd 108 9).offset = 9 := by kernel_rfl
theorem fl108_10 : (fl 108)[10]? = some (fd 108 10) := by kernel_rfl
theorem fdt108_10 : (fd 108 10).type = 106 := by kernel_rfl
theorem fdo108_10 : (fd 108 10).offset = 10 := by kernel_rfl
theorem fnok3 : FnOk Try.prog 3 := ⟨_, Try.func3, by kernel_rfl, by kernel_rfl⟩
theorem fnok4 : FnOk Try.prog 4 := ⟨_, Try.func4, by kernel_rfl, by kernel_rfl⟩
theorem fnok5 : FnOk Try.prog 5 := ⟨_, Try.func5, by kernel_rfl, by kernel_rfl⟩
theorem fnok6 : FnOk Try.prog 6 := ⟨_, Try.func6, by kernel_rfl, by kernel_rfl⟩
theorem fnok7 : FnOk Try.prog 7 := ⟨_, Try.func7, by kernel_rfl, by kernel_rfl⟩
theorem fnok8 : FnOk Try.prog 8 := ⟨_, Try.func8, by kernel_rfl, by kernel_rfl⟩
theorem fnok9 : FnOk Try.prog 9 := ⟨_, Try.func9, by kernel_rfl, by kernel_rfl⟩
theorem fnok10 : FnOk Try.prog 10 := ⟨_, Try.func10, by kernel_rfl, by kernel_rfl⟩
theorem fnok11 : FnOk Try.prog 11 := ⟨_, Try.func11, by kernel_rfl, by kernel_rfl⟩
theorem fnok12 : FnOk Try.prog 12 := ⟨_, Try.func12, by kernel_rfl, by kernel_rfl⟩
theorem fnok13 : FnOk Try.prog 13 := ⟨_, Try.func13, by kernel_rfl, by kernel_rfl⟩
theorem fnok14 : FnOk Try.prog 14 := ⟨_, Try.func14, by kernel_rfl, by kernel_rfl⟩
theorem fnok15 : FnOk Try.prog 15 := ⟨_, Try.func15, by kernel_rfl, by kernel_rfl⟩
theorem fnok16 : FnOk Try.prog 16 := ⟨_, Try.func16, by kernel_rfl, by kernel_rfl⟩
theorem fnok17 : FnOk Try.prog 17 := ⟨_, Try.func17, by kernel_rfl, by kernel_rfl⟩
theorem fnok18 : FnOk Try.prog 18 := ⟨_, Try.func18, by kernel_rfl, by kernel_rfl⟩
theorem fnok19 : FnOk Try.prog 19 := ⟨_, Try.func19, by kernel_rfl, by kernel_rfl⟩
theorem fnok20 : FnOk Try.prog 20 := ⟨_, Try.func20, by kernel_rfl, by kernel_rfl⟩
theorem fnok21 : FnOk Try.prog 21 := ⟨_, Try.func21, by kernel_rfl, by kernel_rfl⟩
theorem fnok22 : FnOk Try.prog 22 := ⟨_, Try.func22, by kernel_rfl, by kernel_rfl⟩
theorem fnok23 : FnOk Try.prog 23 := ⟨_, Try.func23, by kernel_rfl, by kernel_rfl⟩
theorem fnok24 : FnOk Try.prog 24 := ⟨_, Try.func24, by kernel_rfl, by kernel_rfl⟩
theorem fnok25 : FnOk Try.prog 25 := ⟨_, Try.func25, by kernel_rfl, by kernel_rfl⟩
theorem fnok26 : FnOk Try.prog 26 := ⟨_, Try.func26, by kernel_rfl, by kernel_rfl⟩
theorem fnok27 : FnOk Try.prog 27 := ⟨_, Try.func27, by kernel_rfl, by kernel_rfl⟩
theorem fnok28 : FnOk Try.prog 28 := ⟨_, Try.func28, by kernel_rfl, by kernel_rfl⟩
theorem fnok29 : FnOk Try.prog 29 := ⟨_, Try.func29, by kernel_rfl, by kernel_rfl⟩
theorem fnok30 : FnOk Try.prog 30 := ⟨_, Try.func30, by kernel_rfl, by kernel_rfl⟩
theorem fnok31 : FnOk Try.prog 31 := ⟨_, Try.func31, by kernel_rfl, by kernel_rfl⟩
theorem fnok32 : FnOk Try.prog 32 := ⟨_, Try.func32, by kernel_rfl, by kernel_rfl⟩
theorem fnok33 : FnOk Try.prog 33 := ⟨_, Try.func33, by kernel_rfl, by kernel_rfl⟩
theorem fnok34 : FnOk Try.prog 34 := ⟨_, Try.func34, by kernel_rfl, by kernel_rfl⟩
theorem fnok35 : FnOk Try.prog 35 := ⟨_, Try.func35, by kernel_rfl, by kernel_rfl⟩
theorem fnok36 : FnOk Try.prog 36 := ⟨_, Try.func36, by kernel_rfl, by kernel_rfl⟩
theorem fnok37 : FnOk Try.prog 37 := ⟨_, Try.func37, by kernel_rfl, by kernel_rfl⟩
theorem fnok38 : FnOk Try.prog 38 := ⟨_, Try.func38, by kernel_rfl, by kernel_rfl⟩
theorem fnok39 : FnOk Try.prog 39 := ⟨_, Try.func39, by kernel_rfl, by kernel_rfl⟩
theorem fnok40 : FnOk Try.prog 40 := ⟨_, Try.func40, by kernel_rfl, by kernel_rfl⟩
theorem fnok41 : FnOk Try.prog 41 := ⟨_, Try.func41, by kernel_rfl, by kernel_rfl⟩
theorem fnok42 : FnOk Try.prog 42 := ⟨_, Try.func42, by kernel_rfl, by kernel_rfl⟩
theorem fnok43 : FnOk Try.prog 43 := ⟨_, Try.func43, by kernel_rfl, by kernel_rfl⟩
theorem fnok44 : FnOk Try.prog 44 := ⟨_, Try.func44, by kernel_rfl, by kernel_rfl⟩
theorem fnok45 : FnOk Try.prog 45 := ⟨_, Try.func45, by kernel_rfl, by kernel_rfl⟩
theorem fnok46 : FnOk Try.prog 46 := ⟨_, Try.func46, by kernel_rfl, by kernel_rfl⟩
theorem fnok47 : FnOk Try.prog 47 := ⟨_, Try.func47, by kernel_rfl, by kernel_rfl⟩
theorem fnok48 : FnOk Try.prog 48 := ⟨_, Try.func48, by kernel_rfl, by kernel_rfl⟩
theorem fnok49 : FnOk Try.prog 49 := ⟨_, Try.func49, by kernel_rfl, by kernel_rfl⟩
theorem fnok50 : FnOk Try.prog 50 := ⟨_, Try.func50, by kernel_rfl, by kernel_rfl⟩
theorem fnok51 : FnOk Try.prog 51 := ⟨_, Try.func51, by kernel_rfl, by kernel_rfl⟩
theorem fnok52 : FnOk Try.prog 52 := ⟨_, Try.func52, by kernel_rfl, by kernel_rfl⟩
theorem fnok53 : FnOk Try.prog 53 := ⟨_, Try.func53, by kernel_rfl, by kernel_rfl⟩
theorem fnok54 : FnOk Try.prog 54 := ⟨_, Try.func54, by kernel_rfl, by kernel_rfl⟩
theorem fnok55 : FnOk Try.prog 55 := ⟨_, Try.func55, by kernel_rfl, by kernel_rfl⟩
theorem tyA0 : (tt 1 = some ⟨.func #[] #[] false, 1, 8, .nilFunc, false⟩) ∧ (tt 2 = some ⟨.int .i64, 1, 8, .int .i64 0, false⟩) ∧ (tt 3 = some ⟨.int .i64, 1, 8, .int .i64 0, false⟩) ∧ (tt 4 = some ⟨.bool, 1, 1, .bool false, false⟩) ∧ (tt 5 = some ⟨.int .u8, 1, 1, .int .u8 0, false⟩) ∧ (tt 6 = some ⟨.int .u8, 1, 1, .int .u8 0, false⟩) ∧ (tt 7 = some ⟨.struct (fl 7), 4, 24, .agg #[.int .i64 0, .int .i64 0, .bool false, .int .u8 0], false⟩) ∧ ((Value.agg #[.int .i64 0, .int .i64 0, .bool false, .int .u8 0]).cells.toList = [.int .i64 0, .int .i64 0, .bool false, .int .u8 0]) ∧ ((fl 7).toList = [fd 7 0, fd 7 1, fd 7 2, fd 7 3]) ∧ ((fl 7)[0]? = some (fd 7 0)) ∧ ((fd 7 0).type = 2) ∧ ((fd 7 0).offset = 0) ∧ ((fl 7)[1]? = some (fd 7 1)) ∧ ((fd 7 1).type = 3) ∧ ((fd 7 1).offset = 1) ∧ ((fl 7)[2]? = some (fd 7 2)) ∧ ((fd 7 2).type = 4) ∧ ((fd 7 2).offset = 2) ∧ ((fl 7)[3]? = some (fd 7 3)) ∧ ((fd 7 3).type = 6) ∧ ((fd 7 3).offset = 3) ∧ (tt 8 = some ⟨.struct (fl 8), 4, 24, .agg #[.int .i64 0, .int .i64 0, .bool false, .int .u8 0], false⟩) ∧ ((fl 8).toList = [fd 8 0, fd 8 1, fd 8 2, fd 8 3]) ∧ ((fl 8)[0]? = some (fd 8 0)) ∧ ((fd 8 0).type = 2) ∧ ((fd 8 0).offset = 0) ∧ ((fl 8)[1]? = some (fd 8 1)) ∧ ((fd 8 1).type = 3) ∧ ((fd 8 1).offset = 1) ∧ ((fl 8)[2]? = some (fd 8 2)) ∧ ((fd 8 2).type = 4) ∧ ((fd 8 2).offset = 2) ∧ ((fl 8)[3]? = some (fd 8 3)) ∧ ((fd 8 3).type = 6) ∧ ((fd 8 3).offset = 3) ∧ (tt 9 = some ⟨.string, 1, 16, .string ByteArray.empty, false⟩) ∧ (tt 10 = some ⟨.string, 1, 16, .string ByteArray.empty, false⟩) ∧ (tt 11 = some ⟨.string, 1, 16, .string ByteArray.empty, false⟩) ∧ (tt 12 = some ⟨.int .u64, 1, 8, .int .u64 0, false⟩) ∧ (tt 13 = some ⟨.struct (fl 13), 2, 24, .agg #[.string ByteArray.empty, .int .u64 0], false⟩) := ⟨tt1, tt2, tt3, tt4, tt5, tt6, tt7, zc7, fll7, fl7_0, fdt7_0, fdo7_0, fl7_1, fdt7_1, fdo7_1, fl7_2, fdt7_2, fdo7_2, fl7_3, fdt7_3, fdo7_3, tt8, fll8, fl8_0, fdt8_0, fdo8_0, fl8_1, fdt8_1, fdo8_1, fl8_2, fdt8_2, fdo8_2, fl8_3, fdt8_3, fdo8_3, tt9, tt10, tt11, tt12, tt13⟩
theorem tyA1 : ((Value.agg #[.string ByteArray.empty, .int .u64 0]).cells.toList = [.string ByteArray.empty, .int .u64 0]) ∧ ((fl 13).toList = [fd 13 0, fd 13 1]) ∧ ((fl 13)[0]? = some (fd 13 0)) ∧ ((fd 13 0).type = 9) ∧ ((fd 13 0).offset = 0) ∧ ((fl 13)[1]? = some (fd 13 1)) ∧ ((fd 13 1).type = 12) ∧ ((fd 13 1).offset = 1) ∧ (tt 14 = some ⟨.struct (fl 14), 2, 24, .agg #[.string ByteArray.empty, .int .u64 0], false⟩) ∧ ((fl 14).toList = [fd 14 0, fd 14 1]) ∧ ((fl 14)[0]? = some (fd 14 0)) ∧ ((fd 14 0).type = 9) ∧ ((fd 14 0).offset = 0) ∧ ((fl 14)[1]? = some (fd 14 1)) ∧ ((fd 14 1).type = 12) ∧ ((fd 14 1).offset = 1) ∧ (tt 15 = some ⟨.pointer 97, 1, 8, .pointer none, false⟩) ∧ (tt 16 = some ⟨.pointer 100, 1, 8, .pointer none, false⟩) ∧ (tt 17 = some ⟨.pointer 108, 1, 8, .pointer none, false⟩) ∧ (tt 18 = some ⟨.struct (fl 18), 1, 8, .agg #[.pointer none], false⟩) ∧ ((Value.agg #[.pointer none]).cells.toList = [.pointer none]) ∧ ((fl 18).toList = [fd 18 0]) ∧ ((fl 18)[0]? = some (fd 18 0)) ∧ ((fd 18 0).type = 17) ∧ ((fd 18 0).offset = 0) ∧ (tt 19 = some ⟨.struct (fl 19), 1, 8, .agg #[.pointer none], false⟩) ∧ ((fl 19).toList = [fd 19 0]) ∧ ((fl 19)[0]? = some (fd 19 0)) ∧ ((fd 19 0).type = 17) ∧ ((fd 19 0).offset = 0) ∧ (tt 21 = some ⟨.int .i32, 1, 4, .int .i32 0, false⟩) ∧ (tt 22 = some ⟨.slice 25, 1, 24, .slice none 0 0, false⟩) ∧ (tt 23 = some ⟨.pointer 68, 1, 8, .pointer none, false⟩) ∧ (tt 24 = some ⟨.func #[3] #[23] false, 1, 8, .nilFunc, false⟩) ∧ (tt 25 = some ⟨.slice 5, 1, 24, .slice none 0 0, false⟩) ∧ (tt 26 = some ⟨.func #[25] #[25] false, 1, 8, .nilFunc, false⟩) ∧ (tt 27 = some ⟨.slice 32, 1, 24, .slice none 0 0, false⟩) ∧ (tt 29 = some ⟨.func #[25] #[27, 4] false, 1, 8, .nilFunc, false⟩) ∧ (tt 30 = some ⟨.func #[] #[3] false, 1, 8, .nilFunc, false⟩) ∧ (tt 31 = some ⟨.struct (fl 31), 2, 32, .agg #[.int .i64 0, .slice none 0 0], false⟩) := ⟨zc13, fll13, fl13_0, fdt13_0, fdo13_0, fl13_1, fdt13_1, fdo13_1, tt14, fll14, fl14_0, fdt14_0, fdo14_0, fl14_1, fdt14_1, fdo14_1, tt15, tt16, tt17, tt18, zc18, fll18, fl18_0, fdt18_0, fdo18_0, tt19, fll19, fl19_0, fdt19_0, fdo19_0, tt21, tt22, tt23, tt24, tt25, tt26, tt27, tt29, tt30, tt31⟩
theorem tyA2 : ((Value.agg #[.int .i64 0, .slice none 0 0]).cells.toList = [.int .i64 0, .slice none 0 0]) ∧ ((fl 31).toList = [fd 31 0, fd 31 1]) ∧ ((fl 31)[0]? = some (fd 31 0)) ∧ ((fd 31 0).type = 3) ∧ ((fd 31 0).offset = 0) ∧ ((fl 31)[1]? = some (fd 31 1)) ∧ ((fd 31 1).type = 25) ∧ ((fd 31 1).offset = 1) ∧ (tt 32 = some ⟨.struct (fl 32), 2, 32, .agg #[.int .i64 0, .slice none 0 0], false⟩) ∧ ((fl 32).toList = [fd 32 0, fd 32 1]) ∧ ((fl 32)[0]? = some (fd 32 0)) ∧ ((fd 32 0).type = 3) ∧ ((fd 32 0).offset = 0) ∧ ((fl 32)[1]? = some (fd 32 1)) ∧ ((fd 32 1).type = 25) ∧ ((fd 32 1).offset = 1) ∧ (tt 33 = some ⟨.func #[] #[27] false, 1, 8, .nilFunc, false⟩) ∧ (tt 34 = some ⟨.func #[] #[22] false, 1, 8, .nilFunc, false⟩) ∧ (tt 35 = some ⟨.func #[] #[4] false, 1, 8, .nilFunc, false⟩) ∧ (tt 36 = some ⟨.func #[3, 22] #[4] false, 1, 8, .nilFunc, false⟩) ∧ (tt 37 = some ⟨.func #[3, 25] #[23] false, 1, 8, .nilFunc, false⟩) ∧ (tt 38 = some ⟨.func #[22, 25, 3] #[4] false, 1, 8, .nilFunc, false⟩) ∧ (tt 39 = some ⟨.slice 52, 1, 24, .slice none 0 0, false⟩) ∧ (tt 40 = some ⟨.slice 3, 1, 24, .slice none 0 0, false⟩) ∧ (tt 41 = some ⟨.struct (fl 41), 4, 64, .agg #[.int .i64 0, .int .i64 0, .slice none 0 0, .slice none 0 0], false⟩) ∧ ((Value.agg #[.int .i64 0, .int .i64 0, .slice none 0 0, .slice none 0 0]).cells.toList = [.int .i64 0, .int .i64 0, .slice none 0 0, .slice none 0 0]) ∧ ((fl 41).toList = [fd 41 0, fd 41 1, fd 41 2, fd 41 3]) ∧ ((fl 41)[0]? = some (fd 41 0)) ∧ ((fd 41 0).type = 3) ∧ ((fd 41 0).offset = 0) ∧ ((fl 41)[1]? = some (fd 41 1)) ∧ ((fd 41 1).type = 3) ∧ ((fd 41 1).offset = 1) ∧ ((fl 41)[2]? = some (fd 41 2)) ∧ ((fd 41 2).type = 39) ∧ ((fd 41 2).offset = 2) ∧ ((fl 41)[3]? = some (fd 41 3)) ∧ ((fd 41 3).type = 40) ∧ ((fd 41 3).offset = 3) ∧ (tt 42 = some ⟨.struct (fl 42), 4, 64, .agg #[.int .i64 0, .int .i64 0, .slice none 0 0, .slice none 0 0], false⟩) := ⟨zc31, fll31, fl31_0, fdt31_0, fdo31_0, fl31_1, fdt31_1, fdo31_1, tt32, fll32, fl32_0, fdt32_0, fdo32_0, fl32_1, fdt32_1, fdo32_1, tt33, tt34, tt35, tt36, tt37, tt38, tt39, tt40, tt41, zc41, fll41, fl41_0, fdt41_0, fdo41_0, fl41_1, fdt41_1, fdo41_1, fl41_2, fdt41_2, fdo41_2, fl41_3, fdt41_3, fdo41_3, tt42⟩
theorem tyA3 : ((fl 42).toList = [fd 42 0, fd 42 1, fd 42 2, fd 42 3]) ∧ ((fl 42)[0]? = some (fd 42 0)) ∧ ((fd 42 0).type = 3) ∧ ((fd 42 0).offset = 0) ∧ ((fl 42)[1]? = some (fd 42 1)) ∧ ((fd 42 1).type = 3) ∧ ((fd 42 1).offset = 1) ∧ ((fl 42)[2]? = some (fd 42 2)) ∧ ((fd 42 2).type = 39) ∧ ((fd 42 2).offset = 2) ∧ ((fl 42)[3]? = some (fd 42 3)) ∧ ((fd 42 3).type = 40) ∧ ((fd 42 3).offset = 3) ∧ (tt 43 = some ⟨.array 2 3, 2, 16, .agg #[.int .i64 0, .int .i64 0], false⟩) ∧ ((Value.agg #[.int .i64 0, .int .i64 0]).cells.toList = [.int .i64 0, .int .i64 0]) ∧ (tt 44 = some ⟨.func #[3, 42] #[25] false, 1, 8, .nilFunc, false⟩) ∧ (tt 45 = some ⟨.func #[42] #[42] false, 1, 8, .nilFunc, false⟩) ∧ (tt 46 = some ⟨.int .u64, 1, 8, .int .u64 0, false⟩) ∧ (tt 48 = some ⟨.func #[25] #[3, 42, 4] false, 1, 8, .nilFunc, false⟩) ∧ (tt 49 = some ⟨.func #[42] #[4] false, 1, 8, .nilFunc, false⟩) ∧ (tt 50 = some ⟨.func #[42, 43, 25] #[4] false, 1, 8, .nilFunc, false⟩) ∧ (tt 51 = some ⟨.struct (fl 51), 2, 32, .agg #[.int .i64 0, .slice none 0 0], false⟩) ∧ ((fl 51).toList = [fd 51 0, fd 51 1]) ∧ ((fl 51)[0]? = some (fd 51 0)) ∧ ((fd 51 0).type = 3) ∧ ((fd 51 0).offset = 0) ∧ ((fl 51)[1]? = some (fd 51 1)) ∧ ((fd 51 1).type = 40) ∧ ((fd 51 1).offset = 1) ∧ (tt 52 = some ⟨.struct (fl 52), 2, 32, .agg #[.int .i64 0, .slice none 0 0], false⟩) ∧ ((fl 52).toList = [fd 52 0, fd 52 1]) ∧ ((fl 52)[0]? = some (fd 52 0)) ∧ ((fd 52 0).type = 3) ∧ ((fd 52 0).offset = 0) ∧ ((fl 52)[1]? = some (fd 52 1)) ∧ ((fd 52 1).type = 40) ∧ ((fd 52 1).offset = 1) ∧ (tt 53 = some ⟨.func #[42, 3] #[4] false, 1, 8, .nilFunc, false⟩) ∧ (tt 54 = some ⟨.func #[25, 55] #[25] false, 1, 8, .nilFunc, false⟩) ∧ (tt 55 = some ⟨.int .u32, 1, 4, .int .u32 0, false⟩) := ⟨fll42, fl42_0, fdt42_0, fdo42_0, fl42_1, fdt42_1, fdo42_1, fl42_2, fdt42_2, fdo42_2, fl42_3, fdt42_3, fdo42_3, tt43, zc43, tt44, tt45, tt46, tt48, tt49, tt50, tt51, fll51, fl51_0, fdt51_0, fdo51_0, fl51_1, fdt51_1, fdo51_1, tt52, fll52, fl52_0, fdt52_0, fdo52_0, fl52_1, fdt52_1, fdo52_1, tt53, tt54, tt55⟩
theorem tyA4 : (tt 56 = some ⟨.func #[25] #[55] false, 1, 8, .nilFunc, false⟩) ∧ (tt 57 = some ⟨.func #[3] #[25] false, 1, 8, .nilFunc, false⟩) ∧ (tt 59 = some ⟨.func #[25] #[3, 4] false, 1, 8, .nilFunc, false⟩) ∧ (tt 60 = some ⟨.func #[3, 3, 3] #[4] false, 1, 8, .nilFunc, false⟩) ∧ (tt 61 = some ⟨.func #[42, 42] #[4] false, 1, 8, .nilFunc, false⟩) ∧ (tt 62 = some ⟨.func #[3, 42] #[9] false, 1, 8, .nilFunc, false⟩) ∧ (tt 63 = some ⟨.func #[3, 42] #[4] false, 1, 8, .nilFunc, false⟩) ∧ (tt 65 = some ⟨.func #[3, 3, 42] #[27, 23, 4] false, 1, 8, .nilFunc, false⟩) ∧ (tt 66 = some ⟨.func #[3, 3, 42] #[4] false, 1, 8, .nilFunc, false⟩) ∧ (tt 67 = some ⟨.struct (fl 67), 3, 40, .agg #[.int .i64 0, .slice none 0 0, .int .i64 0], false⟩) ∧ ((Value.agg #[.int .i64 0, .slice none 0 0, .int .i64 0]).cells.toList = [.int .i64 0, .slice none 0 0, .int .i64 0]) ∧ ((fl 67).toList = [fd 67 0, fd 67 1, fd 67 2]) ∧ ((fl 67)[0]? = some (fd 67 0)) ∧ ((fd 67 0).type = 3) ∧ ((fd 67 0).offset = 0) ∧ ((fl 67)[1]? = some (fd 67 1)) ∧ ((fd 67 1).type = 25) ∧ ((fd 67 1).offset = 1) ∧ ((fl 67)[2]? = some (fd 67 2)) ∧ ((fd 67 2).type = 3) ∧ ((fd 67 2).offset = 2) ∧ (tt 68 = some ⟨.struct (fl 68), 3, 40, .agg #[.int .i64 0, .slice none 0 0, .int .i64 0], false⟩) ∧ ((fl 68).toList = [fd 68 0, fd 68 1, fd 68 2]) ∧ ((fl 68)[0]? = some (fd 68 0)) ∧ ((fd 68 0).type = 3) ∧ ((fd 68 0).offset = 0) ∧ ((fl 68)[1]? = some (fd 68 1)) ∧ ((fd 68 1).type = 25) ∧ ((fd 68 1).offset = 1) ∧ ((fl 68)[2]? = some (fd 68 2)) ∧ ((fd 68 2).type = 3) ∧ ((fd 68 2).offset = 2) ∧ (tt 69 = some ⟨.func #[3] #[32] false, 1, 8, .nilFunc, false⟩) ∧ (tt 71 = some ⟨.func #[25] #[22, 3] false, 1, 8, .nilFunc, false⟩) ∧ (tt 72 = some ⟨.array 4 3, 4, 32, .agg #[.int .i64 0, .int .i64 0, .int .i64 0, .int .i64 0], false⟩) ∧ ((Value.agg #[.int .i64 0, .int .i64 0, .int .i64 0, .int .i64 0]).cells.toList = [.int .i64 0, .int .i64 0, .int .i64 0, .int .i64 0]) ∧ (tt 73 = some ⟨.func #[25, 3] #[25] false, 1, 8, .nilFunc, false⟩) ∧ (tt 74 = some ⟨.pointer 76, 1, 8, .pointer none, false⟩) ∧ (tt 75 = some ⟨.struct (fl 75), 2, 32, .agg #[.slice none 0 0, .bool false], false⟩) ∧ ((Value.agg #[.slice none 0 0, .bool false]).cells.toList = [.slice none 0 0, .bool false]) := ⟨tt56, tt57, tt59, tt60, tt61, tt62, tt63, tt65, tt66, tt67, zc67, fll67, fl67_0, fdt67_0, fdo67_0, fl67_1, fdt67_1, fdo67_1, fl67_2, fdt67_2, fdo67_2, tt68, fll68, fl68_0, fdt68_0, fdo68_0, fl68_1, fdt68_1, fdo68_1, fl68_2, fdt68_2, fdo68_2, tt69, tt71, tt72, zc72, tt73, tt74, tt75, zc75⟩
theorem tyA5 : ((fl 75).toList = [fd 75 0, fd 75 1]) ∧ ((fl 75)[0]? = some (fd 75 0)) ∧ ((fd 75 0).type = 25) ∧ ((fd 75 0).offset = 0) ∧ ((fl 75)[1]? = some (fd 75 1)) ∧ ((fd 75 1).type = 4) ∧ ((fd 75 1).offset = 1) ∧ (tt 76 = some ⟨.struct (fl 76), 2, 32, .agg #[.slice none 0 0, .bool false], false⟩) ∧ ((fl 76).toList = [fd 76 0, fd 76 1]) ∧ ((fl 76)[0]? = some (fd 76 0)) ∧ ((fd 76 0).type = 25) ∧ ((fd 76 0).offset = 0) ∧ ((fl 76)[1]? = some (fd 76 1)) ∧ ((fd 76 1).type = 4) ∧ ((fd 76 1).offset = 1) ∧ (tt 77 = some ⟨.func #[3] #[4] false, 1, 8, .nilFunc, false⟩) ∧ (tt 78 = some ⟨.func #[40, 77] #[4] false, 1, 8, .nilFunc, false⟩) ∧ (tt 79 = some ⟨.func #[55, 5] #[55] false, 1, 8, .nilFunc, false⟩) ∧ (tt 80 = some ⟨.func #[9, 9] #[4] false, 1, 8, .nilFunc, false⟩) ∧ (tt 82 = some ⟨.func #[25, 3] #[55, 4] false, 1, 8, .nilFunc, false⟩) ∧ (tt 83 = some ⟨.func #[39] #[39] false, 1, 8, .nilFunc, false⟩) ∧ (tt 84 = some ⟨.func #[40] #[40] false, 1, 8, .nilFunc, false⟩) ∧ (tt 85 = some ⟨.func #[40, 40] #[4] false, 1, 8, .nilFunc, false⟩) ∧ (tt 86 = some ⟨.func #[39, 39, 87] #[4] false, 1, 8, .nilFunc, false⟩) ∧ (tt 87 = some ⟨.func #[52, 52] #[4] false, 1, 8, .nilFunc, false⟩) ∧ (tt 88 = some ⟨.int .i64, 1, 8, .int .i64 0, false⟩) ∧ (tt 90 = some ⟨.func #[25, 3] #[25, 3, 88] false, 1, 8, .nilFunc, false⟩) ∧ (tt 92 = some ⟨.func #[25] #[3, 3] false, 1, 8, .nilFunc, false⟩) ∧ (tt 93 = some ⟨.func #[40, 77] #[3] false, 1, 8, .nilFunc, false⟩) ∧ (tt 94 = some ⟨.func #[3] #[3] false, 1, 8, .nilFunc, false⟩) ∧ (tt 95 = some ⟨.func #[] #[9] false, 1, 8, .nilFunc, false⟩) ∧ (tt 96 = some ⟨.struct (fl 96), 4, 40, .agg #[.pointer none, .pointer none, .pointer none, .string ByteArray.empty], false⟩) ∧ ((Value.agg #[.pointer none, .pointer none, .pointer none, .string ByteArray.empty]).cells.toList = [.pointer none, .pointer none, .pointer none, .string ByteArray.empty]) ∧ ((fl 96).toList = [fd 96 0, fd 96 1, fd 96 2, fd 96 3]) ∧ ((fl 96)[0]? = some (fd 96 0)) ∧ ((fd 96 0).type = 17) ∧ ((fd 96 0).offset = 0) ∧ ((fl 96)[1]? = some (fd 96 1)) ∧ ((fd 96 1).type = 17) ∧ ((fd 96 1).offset = 1) := ⟨fll75, fl75_0, fdt75_0, fdo75_0, fl75_1, fdt75_1, fdo75_1, tt76, fll76, fl76_0, fdt76_0, fdo76_0, fl76_1, fdt76_1, fdo76_1, tt77, tt78, tt79, tt80, tt82, tt83, tt84, tt85, tt86, tt87, tt88, tt90, tt92, tt93, tt94, tt95, tt96, zc96, fll96, fl96_0, fdt96_0, fdo96_0, fl96_1, fdt96_1, fdo96_1⟩
theorem tyA6 : ((fl 96)[2]? = some (fd 96 2)) ∧ ((fd 96 2).type = 17) ∧ ((fd 96 2).offset = 2) ∧ ((fl 96)[3]? = some (fd 96 3)) ∧ ((fd 96 3).type = 9) ∧ ((fd 96 3).offset = 3) ∧ (tt 97 = some ⟨.struct (fl 97), 4, 40, .agg #[.pointer none, .pointer none, .pointer none, .string ByteArray.empty], false⟩) ∧ ((fl 97).toList = [fd 97 0, fd 97 1, fd 97 2, fd 97 3]) ∧ ((fl 97)[0]? = some (fd 97 0)) ∧ ((fd 97 0).type = 17) ∧ ((fd 97 0).offset = 0) ∧ ((fl 97)[1]? = some (fd 97 1)) ∧ ((fd 97 1).type = 17) ∧ ((fd 97 1).offset = 1) ∧ ((fl 97)[2]? = some (fd 97 2)) ∧ ((fd 97 2).type = 17) ∧ ((fd 97 2).offset = 2) ∧ ((fl 97)[3]? = some (fd 97 3)) ∧ ((fd 97 3).type = 9) ∧ ((fd 97 3).offset = 3) ∧ (tt 101 = some ⟨.int .u8, 1, 1, .int .u8 0, false⟩) ∧ (tt 102 = some ⟨.int .u8, 1, 1, .int .u8 0, false⟩) ∧ (tt 103 = some ⟨.func #[109, 109] #[4] false, 1, 8, .nilFunc, false⟩) ∧ (tt 104 = some ⟨.pointer 5, 1, 8, .pointer none, false⟩) ∧ (tt 105 = some ⟨.int .i32, 1, 4, .int .i32 0, false⟩) ∧ (tt 106 = some ⟨.int .i32, 1, 4, .int .i32 0, false⟩) ∧ (tt 107 = some ⟨.struct (fl 107), 11, 48, .agg #[.int .u64 0, .int .u64 0, .int .u32 0, .int .u8 0, .int .u8 0, .int .u8 0, .int .u8 0, .nilFunc, .pointer none, .int .i32 0, .int .i32 0], false⟩) ∧ ((Value.agg #[.int .u64 0, .int .u64 0, .int .u32 0, .int .u8 0, .int .u8 0, .int .u8 0, .int .u8 0, .nilFunc, .pointer none, .int .i32 0, .int .i32 0]).cells.toList = [.int .u64 0, .int .u64 0, .int .u32 0, .int .u8 0, .int .u8 0, .int .u8 0, .int .u8 0, .nilFunc, .pointer none, .int .i32 0, .int .i32 0]) ∧ ((fl 107).toList = [fd 107 0, fd 107 1, fd 107 2, fd 107 3, fd 107 4, fd 107 5, fd 107 6, fd 107 7, fd 107 8, fd 107 9, fd 107 10]) ∧ ((fl 107)[0]? = some (fd 107 0)) ∧ ((fd 107 0).type = 12) ∧ ((fd 107 0).offset = 0) ∧ ((fl 107)[1]? = some (fd 107 1)) ∧ ((fd 107 1).type = 12) ∧ ((fd 107 1).offset = 1) ∧ ((fl 107)[2]? = some (fd 107 2)) ∧ ((fd 107 2).type = 55) ∧ ((fd 107 2).offset = 2) ∧ ((fl 107)[3]? = some (fd 107 3)) ∧ ((fd 107 3).type = 101) := ⟨fl96_2, fdt96_2, fdo96_2, fl96_3, fdt96_3, fdo96_3, tt97, fll97, fl97_0, fdt97_0, fdo97_0, fl97_1, fdt97_1, fdo97_1, fl97_2, fdt97_2, fdo97_2, fl97_3, fdt97_3, fdo97_3, tt101, tt102, tt103, tt104, tt105, tt106, tt107, zc107, fll107, fl107_0, fdt107_0, fdo107_0, fl107_1, fdt107_1, fdo107_1, fl107_2, fdt107_2, fdo107_2, fl107_3, fdt107_3⟩
theorem tyA7 : ((fd 107 3).offset = 3) ∧ ((fl 107)[4]? = some (fd 107 4)) ∧ ((fd 107 4).type = 5) ∧ ((fd 107 4).offset = 4) ∧ ((fl 107)[5]? = some (fd 107 5)) ∧ ((fd 107 5).type = 5) ∧ ((fd 107 5).offset = 5) ∧ ((fl 107)[6]? = some (fd 107 6)) ∧ ((fd 107 6).type = 102) ∧ ((fd 107 6).offset = 6) ∧ ((fl 107)[7]? = some (fd 107 7)) ∧ ((fd 107 7).type = 103) ∧ ((fd 107 7).offset = 7) ∧ ((fl 107)[8]? = some (fd 107 8)) ∧ ((fd 107 8).type = 104) ∧ ((fd 107 8).offset = 8) ∧ ((fl 107)[9]? = some (fd 107 9)) ∧ ((fd 107 9).type = 105) ∧ ((fd 107 9).offset = 9) ∧ ((fl 107)[10]? = some (fd 107 10)) ∧ ((fd 107 10).type = 106) ∧ ((fd 107 10).offset = 10) ∧ (tt 108 = some ⟨.struct (fl 108), 11, 48, .agg #[.int .u64 0, .int .u64 0, .int .u32 0, .int .u8 0, .int .u8 0, .int .u8 0, .int .u8 0, .nilFunc, .pointer none, .int .i32 0, .int .i32 0], false⟩) ∧ ((fl 108).toList = [fd 108 0, fd 108 1, fd 108 2, fd 108 3, fd 108 4, fd 108 5, fd 108 6, fd 108 7, fd 108 8, fd 108 9, fd 108 10]) ∧ ((fl 108)[0]? = some (fd 108 0)) ∧ ((fd 108 0).type = 12) ∧ ((fd 108 0).offset = 0) ∧ ((fl 108)[1]? = some (fd 108 1)) ∧ ((fd 108 1).type = 12) ∧ ((fd 108 1).offset = 1) ∧ ((fl 108)[2]? = some (fd 108 2)) ∧ ((fd 108 2).type = 55) ∧ ((fd 108 2).offset = 2) ∧ ((fl 108)[3]? = some (fd 108 3)) ∧ ((fd 108 3).type = 101) ∧ ((fd 108 3).offset = 3) ∧ ((fl 108)[4]? = some (fd 108 4)) ∧ ((fd 108 4).type = 5) ∧ ((fd 108 4).offset = 4) ∧ ((fl 108)[5]? = some (fd 108 5)) := ⟨fdo107_3, fl107_4, fdt107_4, fdo107_4, fl107_5, fdt107_5, fdo107_5, fl107_6, fdt107_6, fdo107_6, fl107_7, fdt107_7, fdo107_7, fl107_8, fdt107_8, fdo107_8, fl107_9, fdt107_9, fdo107_9, fl107_10, fdt107_10, fdo107_10, tt108, fll108, fl108_0, fdt108_0, fdo108_0, fl108_1, fdt108_1, fdo108_1, fl108_2, fdt108_2, fdo108_2, fl108_3, fdt108_3, fdo108_3, fl108_4, fdt108_4, fdo108_4, fl108_5⟩
theorem tyA8 : ((fd 108 5).type = 5) ∧ ((fd 108 5).offset = 5) ∧ ((fl 108)[6]? = some (fd 108 6)) ∧ ((fd 108 6).type = 102) ∧ ((fd 108 6).offset = 6) ∧ ((fl 108)[7]? = some (fd 108 7)) ∧ ((fd 108 7).type = 103) ∧ ((fd 108 7).offset = 7) ∧ ((fl 108)[8]? = some (fd 108 8)) ∧ ((fd 108 8).type = 104) ∧ ((fd 108 8).offset = 8) ∧ ((fl 108)[9]? = some (fd 108 9)) ∧ ((fd 108 9).type = 105) ∧ ((fd 108 9).offset = 9) ∧ ((fl 108)[10]? = some (fd 108 10)) ∧ ((fd 108 10).type = 106) ∧ ((fd 108 10).offset = 10) := ⟨fdt108_5, fdo108_5, fl108_6, fdt108_6, fdo108_6, fl108_7, fdt108_7, fdo108_7, fl108_8, fdt108_8, fdo108_8, fl108_9, fdt108_9, fdo108_9, fl108_10, fdt108_10, fdo108_10⟩
attribute [irreducible] tt fl fd
end Go.Proofs.Ytfllndodnhmhkaa
