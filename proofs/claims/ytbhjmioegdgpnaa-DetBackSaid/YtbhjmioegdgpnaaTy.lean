import Derived.Test.YtbhjmioegdgpnaaChecked
import Derived.Test.YtbhjmioegdgpnaaAbD
import Derived.KernelRfl
namespace Go.Proofs.Ytbhjmioegdgpnaa
open Go.Ab
set_option linter.unusedSimpArgs false
noncomputable def tt : TypeId → Option TI := ttOf Try.prog
theorem ttok : TTok Try.prog tt := ttOf_ok _
noncomputable def fl (T : TypeId) : Array Field := flOf Try.prog T
noncomputable def fd (T : TypeId) (k : Nat) : Field := (fl T).getD k default
theorem tt1 : tt 1 = some ⟨.func #[] #[] false, 1, 8, .nilFunc, false⟩ := by kernel_rfl
theorem tt2 : tt 2 = some ⟨.int .i64, 1, 8, .int .i64 0, false⟩ := by kernel_rfl
theorem tt3 : tt 3 = some ⟨.int .i64, 1, 8, .int .i64 0, false⟩ := by kernel_rfl
theorem tt4 : tt 4 = some ⟨.bool, 1, 1, .bool false, false⟩ := by kernel_rfl
theorem tt5 : tt 5 = some ⟨.int .u8, 1, 1, .int .u8 0, false⟩ := by kernel_rfl
theorem tt6 : tt 6 = some ⟨.int .u8, 1, 1, .int .u8 0, false⟩ := by kernel_rfl
theorem tt7 : tt 7 = some ⟨.struct (fl 7), 4, 24, .agg #[.int .i64 0, .int .i64 0, .bool false, .int .u8 0], false⟩ := by kernel_rfl
theorem zc7 : (Value.agg #[.int .i64 0, .int .i64 0, .bool false, .int .u8 0]).cells.toList = [.int .i64 0, .int .i64 0, .bool false, .int .u8 0] := by kernel_rfl
theorem fll7 : (fl 7).toList = [fd 7 0, fd 7 1, fd 7 2, fd 7 3] := by kernel_rfl
theorem fl7_0 : (fl 7)[0]? = some (fd 7 0) := by kernel_rfl
theorem fdt7_0 : (fd 7 0).type = 2 := by kernel_rfl
theorem fdo7_0 : (fd 7 0).offset = 0 := by kernel_rfl
theorem fl7_1 : (fl 7)[1]? = some (fd 7 1) := by kernel_rfl
theorem fdt7_1 : (fd 7 1).type = 3 := by kernel_rfl
theorem fdo7_1 : (fd 7 1).offset = 1 := by kernel_rfl
theorem fl7_2 : (fl 7)[2]? = some (fd 7 2) := by kernel_rfl
theorem fdt7_2 : (fd 7 2).type = 4 := by kernel_rfl
theorem fdo7_2 : (fd 7 2).offset = 2 := by kernel_rfl
theorem fl7_3 : (fl 7)[3]? = some (fd 7 3) := by kernel_rfl
theorem fdt7_3 : (fd 7 3).type = 6 := by kernel_rfl
theorem fdo7_3 : (fd 7 3).offset = 3 := by kernel_rfl
theorem tt8 : tt 8 = some ⟨.struct (fl 8), 4, 24, .agg #[.int .i64 0, .int .i64 0, .bool false, .int .u8 0], false⟩ := by kernel_rfl
theorem fll8 : (fl 8).toList = [fd 8 0, fd 8 1, fd 8 2, fd 8 3] := by kernel_rfl
theorem fl8_0 : (fl 8)[0]? = some (fd 8 0) := by kernel_rfl
theorem fdt8_0 : (fd 8 0).type = 2 := by kernel_rfl
theorem fdo8_0 : (fd 8 0).offset = 0 := by kernel_rfl
theorem fl8_1 : (fl 8)[1]? = some (fd 8 1) := by kernel_rfl
theorem fdt8_1 : (fd 8 1).type = 3 := by kernel_rfl
theorem fdo8_1 : (fd 8 1).offset = 1 := by kernel_rfl
theorem fl8_2 : (fl 8)[2]? = some (fd 8 2) := by kernel_rfl
theorem fdt8_2 : (fd 8 2).type = 4 := by kernel_rfl
theorem fdo8_2 : (fd 8 2).offset = 2 := by kernel_rfl
theorem fl8_3 : (fl 8)[3]? = some (fd 8 3) := by kernel_rfl
theorem fdt8_3 : (fd 8 3).type = 6 := by kernel_rfl
theorem fdo8_3 : (fd 8 3).offset = 3 := by kernel_rfl
theorem tt9 : tt 9 = some ⟨.string, 1, 16, .string ByteArray.empty, false⟩ := by kernel_rfl
theorem tt10 : tt 10 = some ⟨.string, 1, 16, .string ByteArray.empty, false⟩ := by kernel_rfl
theorem tt11 : tt 11 = some ⟨.string, 1, 16, .string ByteArray.empty, false⟩ := by kernel_rfl
theorem tt12 : tt 12 = some ⟨.int .u64, 1, 8, .int .u64 0, false⟩ := by kernel_rfl
theorem tt13 : tt 13 = some ⟨.struct (fl 13), 2, 24, .agg #[.string ByteArray.empty, .int .u64 0], false⟩ := by kernel_rfl
theorem zc13 : (Value.agg #[.string ByteArray.empty, .int .u64 0]).cells.toList = [.string ByteArray.empty, .int .u64 0] := by kernel_rfl
theorem fll13 : (fl 13).toList = [fd 13 0, fd 13 1] := by kernel_rfl
theorem fl13_0 : (fl 13)[0]? = some (fd 13 0) := by kernel_rfl
theorem fdt13_0 : (fd 13 0).type = 9 := by kernel_rfl
theorem fdo13_0 : (fd 13 0).offset = 0 := by kernel_rfl
theorem fl13_1 : (fl 13)[1]? = some (fd 13 1) := by kernel_rfl
theorem fdt13_1 : (fd 13 1).type = 12 := by kernel_rfl
theorem fdo13_1 : (fd 13 1).offset = 1 := by kernel_rfl
theorem tt14 : tt 14 = some ⟨.struct (fl 14), 2, 24, .agg #[.string ByteArray.empty, .int .u64 0], false⟩ := by kernel_rfl
theorem fll14 : (fl 14).toList = [fd 14 0, fd 14 1] := by kernel_rfl
theorem fl14_0 : (fl 14)[0]? = some (fd 14 0) := by kernel_rfl
theorem fdt14_0 : (fd 14 0).type = 9 := by kernel_rfl
theorem fdo14_0 : (fd 14 0).offset = 0 := by kernel_rfl
theorem fl14_1 : (fl 14)[1]? = some (fd 14 1) := by kernel_rfl
theorem fdt14_1 : (fd 14 1).type = 12 := by kernel_rfl
theorem fdo14_1 : (fd 14 1).offset = 1 := by kernel_rfl
theorem tt15 : tt 15 = some ⟨.pointer 103, 1, 8, .pointer none, false⟩ := by kernel_rfl
theorem tt16 : tt 16 = some ⟨.pointer 106, 1, 8, .pointer none, false⟩ := by kernel_rfl
theorem tt17 : tt 17 = some ⟨.pointer 115, 1, 8, .pointer none, false⟩ := by kernel_rfl
theorem tt18 : tt 18 = some ⟨.struct (fl 18), 1, 8, .agg #[.pointer none], false⟩ := by kernel_rfl
theorem zc18 : (Value.agg #[.pointer none]).cells.toList = [.pointer none] := by kernel_rfl
theorem fll18 : (fl 18).toList = [fd 18 0] := by kernel_rfl
theorem fl18_0 : (fl 18)[0]? = some (fd 18 0) := by kernel_rfl
theorem fdt18_0 : (fd 18 0).type = 17 := by kernel_rfl
theorem fdo18_0 : (fd 18 0).offset = 0 := by kernel_rfl
theorem tt19 : tt 19 = some ⟨.struct (fl 19), 1, 8, .agg #[.pointer none], false⟩ := by kernel_rfl
theorem fll19 : (fl 19).toList = [fd 19 0] := by kernel_rfl
theorem fl19_0 : (fl 19)[0]? = some (fd 19 0) := by kernel_rfl
theorem fdt19_0 : (fd 19 0).type = 17 := by kernel_rfl
theorem fdo19_0 : (fd 19 0).offset = 0 := by kernel_rfl
theorem tt21 : tt 21 = some ⟨.int .i32, 1, 4, .int .i32 0, false⟩ := by kernel_rfl
theorem tt22 : tt 22 = some ⟨.slice 53, 1, 24, .slice none 0 0, false⟩ := by kernel_rfl
theorem tt23 : tt 23 = some ⟨.array 2 3, 2, 16, .agg #[.int .i64 0, .int .i64 0], false⟩ := by kernel_rfl
theorem zc23 : (Value.agg #[.int .i64 0, .int .i64 0]).cells.toList = [.int .i64 0, .int .i64 0] := by kernel_rfl
theorem tt24 : tt 24 = some ⟨.slice 4, 1, 24, .slice none 0 0, false⟩ := by kernel_rfl
theorem tt25 : tt 25 = some ⟨.slice 50, 1, 24, .slice none 0 0, false⟩ := by kernel_rfl
theorem tt26 : tt 26 = some ⟨.struct (fl 26), 4, 64, .agg #[.int .i64 0, .int .i64 0, .slice none 0 0, .slice none 0 0], false⟩ := by kernel_rfl
theorem zc26 : (Value.agg #[.int .i64 0, .int .i64 0, .slice none 0 0, .slice none 0 0]).cells.toList = [.int .i64 0, .int .i64 0, .slice none 0 0, .slice none 0 0] := by kernel_rfl
theorem fll26 : (fl 26).toList = [fd 26 0, fd 26 1, fd 26 2, fd 26 3] := by kernel_rfl
theorem fl26_0 : (fl 26)[0]? = some (fd 26 0) := by kernel_rfl
theorem fdt26_0 : (fd 26 0).type = 3 := by kernel_rfl
theorem fdo26_0 : (fd 26 0).offset = 0 := by kernel_rfl
theorem fl26_1 : (fl 26)[1]? = some (fd 26 1) := by kernel_rfl
theorem fdt26_1 : (fd 26 1).type = 3 := by kernel_rfl
theorem fdo26_1 : (fd 26 1).offset = 1 := by kernel_rfl
theorem fl26_2 : (fl 26)[2]? = some (fd 26 2) := by kernel_rfl
theorem fdt26_2 : (fd 26 2).type = 24 := by kernel_rfl
theorem fdo26_2 : (fd 26 2).offset = 2 := by kernel_rfl
theorem fl26_3 : (fl 26)[3]? = some (fd 26 3) := by kernel_rfl
theorem fdt26_3 : (fd 26 3).type = 25 := by kernel_rfl
theorem fdo26_3 : (fd 26 3).offset = 3 := by kernel_rfl
theorem tt27 : tt 27 = some ⟨.struct (fl 27), 4, 64, .agg #[.int .i64 0, .int .i64 0, .slice none 0 0, .slice none 0 0], false⟩ := by kernel_rfl
theorem fll27 : (fl 27).toList = [fd 27 0, fd 27 1, fd 27 2, fd 27 3] := by kernel_rfl
theorem fl27_0 : (fl 27)[0]? = some (fd 27 0) := by kernel_rfl
theorem fdt27_0 : (fd 27 0).type = 3 := by kernel_rfl
theorem fdo27_0 : (fd 27 0).offset = 0 := by kernel_rfl
theorem fl27_1 : (fl 27)[1]? = some (fd 27 1) := by kernel_rfl
theorem fdt27_1 : (fd 27 1).type = 3 := by kernel_rfl
theorem fdo27_1 : (fd 27 1).offset = 1 := by kernel_rfl
theorem fl27_2 : (fl 27)[2]? = some (fd 27 2) := by kernel_rfl
theorem fdt27_2 : (fd 27 2).type = 24 := by kernel_rfl
theorem fdo27_2 : (fd 27 2).offset = 2 := by kernel_rfl
theorem fl27_3 : (fl 27)[3]? = some (fd 27 3) := by kernel_rfl
theorem fdt27_3 : (fd 27 3).type = 25 := by kernel_rfl
theorem fdo27_3 : (fd 27 3).offset = 3 := by kernel_rfl
theorem tt28 : tt 28 = some ⟨.func #[22, 3, 23] #[27] false, 1, 8, .nilFunc, false⟩ := by kernel_rfl
theorem tt29 : tt 29 = some ⟨.slice 32, 1, 24, .slice none 0 0, false⟩ := by kernel_rfl
theorem tt30 : tt 30 = some ⟨.func #[3, 3] #[29] false, 1, 8, .nilFunc, false⟩ := by kernel_rfl
theorem tt31 : tt 31 = some ⟨.func #[27, 32] #[4] false, 1, 8, .nilFunc, false⟩ := by kernel_rfl
theorem tt32 : tt 32 = some ⟨.slice 3, 1, 24, .slice none 0 0, false⟩ := by kernel_rfl
theorem tt33 : tt 33 = some ⟨.func #[] #[4] false, 1, 8, .nilFunc, false⟩ := by kernel_rfl
theorem tt34 : tt 34 = some ⟨.func #[22, 3, 23] #[4] false, 1, 8, .nilFunc, false⟩ := by kernel_rfl
theorem tt35 : tt 35 = some ⟨.int .u64, 1, 8, .int .u64 0, false⟩ := by kernel_rfl
theorem tt36 : tt 36 = some ⟨.func #[27, 32, 3] #[32] false, 1, 8, .nilFunc, false⟩ := by kernel_rfl
theorem tt37 : tt 37 = some ⟨.func #[32, 32] #[4] false, 1, 8, .nilFunc, false⟩ := by kernel_rfl
theorem tt38 : tt 38 = some ⟨.func #[27, 32] #[32] false, 1, 8, .nilFunc, false⟩ := by kernel_rfl
theorem tt39 : tt 39 = some ⟨.func #[22, 32, 23] #[4] false, 1, 8, .nilFunc, false⟩ := by kernel_rfl
theorem tt40 : tt 40 = some ⟨.struct (fl 40), 4, 64, .agg #[.int .i64 0, .int .i64 0, .slice none 0 0, .slice none 0 0], false⟩ := by kernel_rfl
theorem fll40 : (fl 40).toList = [fd 40 0, fd 40 1, fd 40 2, fd 40 3] := by kernel_rfl
theorem fl40_0 : (fl 40)[0]? = some (fd 40 0) := by kernel_rfl
theorem fdt40_0 : (fd 40 0).type = 3 := by kernel_rfl
theorem fdo40_0 : (fd 40 0).offset = 0 := by kernel_rfl
theorem fl40_1 : (fl 40)[1]? = some (fd 40 1) := by kernel_rfl
theorem fdt40_1 : (fd 40 1).type = 3 := by kernel_rfl
theorem fdo40_1 : (fd 40 1).offset = 1 := by kernel_rfl
theorem fl40_2 : (fl 40)[2]? = some (fd 40 2) := by kernel_rfl
theorem fdt40_2 : (fd 40 2).type = 24 := by kernel_rfl
theorem fdo40_2 : (fd 40 2).offset = 2 := by kernel_rfl
theorem fl40_3 : (fl 40)[3]? = some (fd 40 3) := by kernel_rfl
theorem fdt40_3 : (fd 40 3).type = 29 := by kernel_rfl
theorem fdo40_3 : (fd 40 3).offset = 3 := by kernel_rfl
theorem tt41 : tt 41 = some ⟨.struct (fl 41), 4, 64, .agg #[.int .i64 0, .int .i64 0, .slice none 0 0, .slice none 0 0], false⟩ := by kernel_rfl
theorem fll41 : (fl 41).toList = [fd 41 0, fd 41 1, fd 41 2, fd 41 3] := by kernel_rfl
theorem fl41_0 : (fl 41)[0]? = some (fd 41 0) := by kernel_rfl
theorem fdt41_0 : (fd 41 0).type = 3 := by kernel_rfl
theorem fdo41_0 : (fd 41 0).offset = 0 := by kernel_rfl
theorem fl41_1 : (fl 41)[1]? = some (fd 41 1) := by kernel_rfl
theorem fdt41_1 : (fd 41 1).type = 3 := by kernel_rfl
theorem fdo41_1 : (fd 41 1).offset = 1 := by kernel_rfl
theorem fl41_2 : (fl 41)[2]? = some (fd 41 2) := by kernel_rfl
theorem fdt41_2 : (fd 41 2).type = 24 := by kernel_rfl
theorem fdo41_2 : (fd 41 2).offset = 2 := by kernel_rfl
theorem fl41_3 : (fl 41)[3]? = some (fd 41 3) := by kernel_rfl
theorem fdt41_3 : (fd 41 3).type = 29 := by kernel_rfl
theorem fdo41_3 : (fd 41 3).offset = 3 := by kernel_rfl
theorem tt42 : tt 42 = some ⟨.int .i64, 1, 8, .int .i64 0, false⟩ := by kernel_rfl
theorem tt44 : tt 44 = some ⟨.func #[27] #[41, 42] false, 1, 8, .nilFunc, false⟩ := by kernel_rfl
theorem tt45 : tt 45 = some ⟨.func #[41] #[4] false, 1, 8, .nilFunc, false⟩ := by kernel_rfl
theorem tt46 : tt 46 = some ⟨.func #[41, 32] #[4] false, 1, 8, .nilFunc, false⟩ := by kernel_rfl
theorem tt47 : tt 47 = some ⟨.func #[41, 3, 32] #[4] false, 1, 8, .nilFunc, false⟩ := by kernel_rfl
theorem tt48 : tt 48 = some ⟨.func #[22, 3, 23] #[41] false, 1, 8, .nilFunc, false⟩ := by kernel_rfl
theorem tt49 : tt 49 = some ⟨.func #[41] #[27] false, 1, 8, .nilFunc, false⟩ := by kernel_rfl
theorem tt50 : tt 50 = some ⟨.slice 52, 1, 24, .slice none 0 0, false⟩ := by kernel_rfl
theorem tt51 : tt 51 = some ⟨.struct (fl 51), 2, 16, .agg #[.int .i64 0, .int .i64 0], true⟩ := by kernel_rfl
theorem fll51 : (fl 51).toList = [fd 51 0, fd 51 1] := by kernel_rfl
theorem fl51_0 : (fl 51)[0]? = some (fd 51 0) := by kernel_rfl
theorem fdt51_0 : (fd 51 0).type = 3 := by kernel_rfl
theorem fdo51_0 : (fd 51 0).offset = 0 := by kernel_rfl
theorem fl51_1 : (fl 51)[1]? = some (fd 51 1) := by kernel_rfl
theorem fdt51_1 : (fd 51 1).type = 3 := by kernel_rfl
theorem fdo51_1 : (fd 51 1).offset = 1 := by kernel_rfl
theorem tt52 : tt 52 = some ⟨.struct (fl 52), 2, 16, .agg #[.int .i64 0, .int .i64 0], true⟩ := by kernel_rfl
theorem fll52 : (fl 52).toList = [fd 52 0, fd 52 1] := by kernel_rfl
theorem fl52_0 : (fl 52)[0]? = some (fd 52 0) := by kernel_rfl
theorem fdt52_0 : (fd 52 0).type = 3 := by kernel_rfl
theorem fdo52_0 : (fd 52 0).offset = 0 := by kernel_rfl
theorem fl52_1 : (fl 52)[1]? = some (fd 52 1) := by kernel_rfl
theorem fdt52_1 : (fd 52 1).type = 3 := by kernel_rfl
theorem fdo52_1 : (fd 52 1).offset = 1 := by kernel_rfl
theorem tt53 : tt 53 = some ⟨.array 3 3, 3, 24, .agg #[.int .i64 0, .int .i64 0, .int .i64 0], false⟩ := by kernel_rfl
theorem zc53 : (Value.agg #[.int .i64 0, .int .i64 0, .int .i64 0]).cells.toList = [.int .i64 0, .int .i64 0, .int .i64 0] := by kernel_rfl
theorem tt54 : tt 54 = some ⟨.func #[32, 3] #[4] false, 1, 8, .nilFunc, false⟩ := by kernel_rfl
theorem tt55 : tt 55 = some ⟨.func #[32] #[] false, 1, 8, .nilFunc, false⟩ := by kernel_rfl
theorem tt56 : tt 56 = some ⟨.func #[32] #[32] false, 1, 8, .nilFunc, false⟩ := by kernel_rfl
theorem tt57 : tt 57 = some ⟨.func #[32, 58] #[4] false, 1, 8, .nilFunc, false⟩ := by kernel_rfl
theorem tt58 : tt 58 = some ⟨.func #[3] #[4] false, 1, 8, .nilFunc, false⟩ := by kernel_rfl
theorem tt59 : tt 59 = some ⟨.func #[27] #[4] false, 1, 8, .nilFunc, false⟩ := by kernel_rfl
theorem tt60 : tt 60 = some ⟨.func #[32] #[9] false, 1, 8, .nilFunc, false⟩ := by kernel_rfl
theorem tt63 : tt 63 = some ⟨.func #[29, 64] #[4] false, 1, 8, .nilFunc, false⟩ := by kernel_rfl
theorem tt64 : tt 64 = some ⟨.func #[32] #[4] false, 1, 8, .nilFunc, false⟩ := by kernel_rfl
theorem tt65 : tt 65 = some ⟨.func #[41, 32] #[3] false, 1, 8, .nilFunc, false⟩ := by kernel_rfl
theorem tt66 : tt 66 = some ⟨.func #[41, 3, 32] #[3] false, 1, 8, .nilFunc, false⟩ := by kernel_rfl
theorem tt67 : tt 67 = some ⟨.func #[24] #[24] false, 1, 8, .nilFunc, false⟩ := by kernel_rfl
theorem tt68 : tt 68 = some ⟨.func #[32, 3, 3, 3] #[] false, 1, 8, .nilFunc, false⟩ := by kernel_rfl
theorem tt69 : tt 69 = some ⟨.func #[35] #[3] false, 1, 8, .nilFunc, false⟩ := by kernel_rfl
theorem tt70 : tt 70 = some ⟨.func #[32, 58] #[3] false, 1, 8, .nilFunc, false⟩ := by kernel_rfl
theorem tt71 : tt 71 = some ⟨.func #[25, 74] #[4] false, 1, 8, .nilFunc, false⟩ := by kernel_rfl
theorem tt72 : tt 72 = some ⟨.func #[50, 73] #[4] false, 1, 8, .nilFunc, false⟩ := by kernel_rfl
theorem tt73 : tt 73 = some ⟨.func #[52] #[4] false, 1, 8, .nilFunc, false⟩ := by kernel_rfl
theorem tt74 : tt 74 = some ⟨.func #[50] #[4] false, 1, 8, .nilFunc, false⟩ := by kernel_rfl
theorem tt75 : tt 75 = some ⟨.slice 5, 1, 24, .slice none 0 0, false⟩ := by kernel_rfl
theorem tt76 : tt 76 = some ⟨.func #[29, 64] #[3] false, 1, 8, .nilFunc, false⟩ := by kernel_rfl
theorem tt77 : tt 77 = some ⟨.func #[41, 3, 3] #[3] false, 1, 8, .nilFunc, false⟩ := by kernel_rfl
theorem tt78 : tt 78 = some ⟨.func #[32, 3, 3] #[] false, 1, 8, .nilFunc, false⟩ := by kernel_rfl
theorem tt79 : tt 79 = some ⟨.int .i64, 1, 8, .int .i64 0, false⟩ := by kernel_rfl
theorem tt81 : tt 81 = some ⟨.func #[32, 3, 3] #[3, 79] false, 1, 8, .nilFunc, false⟩ := by kernel_rfl
theorem tt82 : tt 82 = some ⟨.func #[32, 3, 3] #[4] false, 1, 8, .nilFunc, false⟩ := by kernel_rfl
theorem tt83 : tt 83 = some ⟨.func #[3, 3] #[4] false, 1, 8, .nilFunc, false⟩ := by kernel_rfl
theorem tt84 : tt 84 = some ⟨.func #[32, 3, 3, 3] #[3] false, 1, 8, .nilFunc, false⟩ := by kernel_rfl
theorem tt85 : tt 85 = some ⟨.func #[32, 3, 3, 3] #[3, 4] false, 1, 8, .nilFunc, false⟩ := by kernel_rfl
theorem tt86 : tt 86 = some ⟨.func #[87] #[3] false, 1, 8, .nilFunc, false⟩ := by kernel_rfl
theorem tt87 : tt 87 = some ⟨.int .u32, 1, 4, .int .u32 0, false⟩ := by kernel_rfl
theorem tt88 : tt 88 = some ⟨.func #[89] #[3] false, 1, 8, .nilFunc, false⟩ := by kernel_rfl
theorem tt89 : tt 89 = some ⟨.int .u64, 1, 8, .int .u64 0, false⟩ := by kernel_rfl
theorem tt90 : tt 90 = some ⟨.func #[25, 74] #[3] false, 1, 8, .nilFunc, false⟩ := by kernel_rfl
theorem tt91 : tt 91 = some ⟨.func #[50, 73] #[3] false, 1, 8, .nilFunc, false⟩ := by kernel_rfl
theorem tt92 : tt 92 = some ⟨.int .u64, 1, 8, .int .u64 0, false⟩ := by kernel_rfl
theorem tt93 : tt 93 = some ⟨.func #[3] #[35] false, 1, 8, .nilFunc, false⟩ := by kernel_rfl
theorem tt94 : tt 94 = some ⟨.func #[] #[89] false, 1, 8, .nilFunc, false⟩ := by kernel_rfl
theorem tt95 : tt 95 = some ⟨.func #[32, 3, 96] #[3] false, 1, 8, .nilFunc, false⟩ := by kernel_rfl
theorem tt96 : tt 96 = some ⟨.pointer 3, 1, 8, .pointer none, false⟩ := by kernel_rfl
theorem tt97 : tt 97 = some ⟨.func #[32, 3, 3, 3, 96] #[3] false, 1, 8, .nilFunc, false⟩ := by kernel_rfl
theorem tt98 : tt 98 = some ⟨.pointer 92, 1, 8, .pointer none, false⟩ := by kernel_rfl
theorem tt100 : tt 100 = some ⟨.func #[32, 3, 3, 96] #[3, 3] false, 1, 8, .nilFunc, false⟩ := by kernel_rfl
theorem tt101 : tt 101 = some ⟨.func #[] #[9] false, 1, 8, .nilFunc, false⟩ := by kernel_rfl
theorem tt102 : tt 102 = some ⟨.struct (fl 102), 4, 40, .agg #[.pointer none, .pointer none, .pointer none, .string ByteArray.empty], false⟩ := by kernel_rfl
theorem zc102 : (Value.agg #[.pointer none, .pointer none, .pointer none, .string ByteArray.empty]).cells.toList = [.pointer none, .pointer none, .pointer none, .string ByteArray.empty] := by kernel_rfl
theorem fll102 : (fl 102).toList = [fd 102 0, fd 102 1, fd 102 2, fd 102 3] := by kernel_rfl
theorem fl102_0 : (fl 102)[0]? = some (fd 102 0) := by kernel_rfl
theorem fdt102_0 : (fd 102 0).type = 17 := by kernel_rfl
theorem fdo102_0 : (fd 102 0).offset = 0 := by kernel_rfl
theorem fl102_1 : (fl 102)[1]? = some (fd 102 1) := by kernel_rfl
theorem fdt102_1 : (fd 102 1).type = 17 := by kernel_rfl
theorem fdo102_1 : (fd 102 1).offset = 1 := by kernel_rfl
theorem fl102_2 : (fl 102)[2]? = some (fd 102 2) := by kernel_rfl
theorem fdt102_2 : (fd 102 2).type = 17 := by kernel_rfl
theorem fdo102_2 : (fd 102 2).offset = 2 := by kernel_rfl
theorem fl102_3 : (fl 102)[3]? = some (fd 102 3) := by kernel_rfl
theorem fdt102_3 : (fd 102 3).type = 9 := by kernel_rfl
theorem fdo102_3 : (fd 102 3).offset = 3 := by kernel_rfl
theorem tt103 : tt 103 = some ⟨.struct (fl 103), 4, 40, .agg #[.pointer none, .pointer none, .pointer none, .string ByteArray.empty], false⟩ := by kernel_rfl
theorem fll103 : (fl 103).toList = [fd 103 0, fd 103 1, fd 103 2, fd 103 3] := by kernel_rfl
theorem fl103_0 : (fl 103)[0]? = some (fd 103 0) := by kernel_rfl
theorem fdt103_0 : (fd 103 0).type = 17 := by kernel_rfl
theorem fdo103_0 : (fd 103 0).offset = 0 := by kernel_rfl
theorem fl103_1 : (fl 103)[1]? = some (fd 103 1) := by kernel_rfl
theorem fdt103_1 : (fd 103 1).type = 17 := by kernel_rfl
theorem fdo103_1 : (fd 103 1).offset = 1 := by kernel_rfl
theorem fl103_2 : (fl 103)[2]? = some (fd 103 2) := by kernel_rfl
theorem fdt103_2 : (fd 103 2).type = 17 := by kernel_rfl
theorem fdo103_2 : (fd 103 2).offset = 2 := by kernel_rfl
theorem fl103_3 : (fl 103)[3]? = some (fd 103 3) := by kernel_rfl
theorem fdt103_3 : (fd 103 3).type = 9 := by kernel_rfl
theorem fdo103_3 : (fd 103 3).offset = 3 := by kernel_rfl
theorem tt107 : tt 107 = some ⟨.func #[] #[3] false, 1, 8, .nilFunc, false⟩ := by kernel_rfl
theorem tt108 : tt 108 = some ⟨.int .u8, 1, 1, .int .u8 0, false⟩ := by kernel_rfl
theorem tt109 : tt 109 = some ⟨.int .u8, 1, 1, .int .u8 0, false⟩ := by kernel_rfl
theorem tt110 : tt 110 = some ⟨.func #[116, 116] #[4] false, 1, 8, .nilFunc, false⟩ := by kernel_rfl
theorem tt111 : tt 111 = some ⟨.pointer 5, 1, 8, .pointer none, false⟩ := by kernel_rfl
theorem tt112 : tt 112 = some ⟨.int .i32, 1, 4, .int .i32 0, false⟩ := by kernel_rfl
theorem tt113 : tt 113 = some ⟨.int .i32, 1, 4, .int .i32 0, false⟩ := by kernel_rfl
theorem tt114 : tt 114 = some ⟨.struct (fl 114), 11, 48, .agg #[.int .u64 0, .int .u64 0, .int .u32 0, .int .u8 0, .int .u8 0, .int .u8 0, .int .u8 0, .nilFunc, .pointer none, .int .i32 0, .int .i32 0], false⟩ := by kernel_rfl
theorem zc114 : (Value.agg #[.int .u64 0, .int .u64 0, .int .u32 0, .int .u8 0, .int .u8 0, .int .u8 0, .int .u8 0, .nilFunc, .pointer none, .int .i32 0, .int .i32 0]).cells.toList = [.int .u64 0, .int .u64 0, .int .u32 0, .int .u8 0, .int .u8 0, .int .u8 0, .int .u8 0, .nilFunc, .pointer none, .int .i32 0, .int .i32 0] := by kernel_rfl
theorem fll114 : (fl 114).toList = [fd 114 0, fd 114 1, fd 114 2, fd 114 3, fd 114 4, fd 114 5, fd 114 6, fd 114 7, fd 114 8, fd 114 9, fd 114 10] := by kernel_rfl
theorem fl114_0 : (fl 114)[0]? = some (fd 114 0) := by kernel_rfl
theorem fdt114_0 : (fd 114 0).type = 12 := by kernel_rfl
theorem fdo114_0 : (fd 114 0).offset = 0 := by kernel_rfl
theorem fl114_1 : (fl 114)[1]? = some (fd 114 1) := by kernel_rfl
theorem fdt114_1 : (fd 114 1).type = 12 := by kernel_rfl
theorem fdo114_1 : (fd 114 1).offset = 1 := by kernel_rfl
theorem fl114_2 : (fl 114)[2]? = some (fd 114 2) := by kernel_rfl
theorem fdt114_2 : (fd 114 2).type = 87 := by kernel_rfl
theorem fdo114_2 : (fd 114 2).offset = 2 := by kernel_rfl
theorem fl114_3 : (fl 114)[3]? = some (fd 114 3) := by kernel_rfl
theorem fdt114_3 : (fd 114 3).type = 108 := by kernel_rfl
theorem fdo114_3 : (fd 114 3).offset = 3 := by kernel_rfl
theorem fl114_4 : (fl 114)[4]? = some (fd 114 4) := by kernel_rfl
theorem fdt114_4 : (fd 114 4).type = 5 := by kernel_rfl
theorem fdo114_4 : (fd 114 4).offset = 4 := by kernel_rfl
theorem fl114_5 : (fl 114)[5]? = some (fd 114 5) := by kernel_rfl
theorem fdt114_5 : (fd 114 5).type = 5 := by kernel_rfl
theorem fdo114_5 : (fd 114 5).offset = 5 := by kernel_rfl
theorem fl114_6 : (fl 114)[6]? = some (fd 114 6) := by kernel_rfl
theorem fdt114_6 : (fd 114 6).type = 109 := by kernel_rfl
theorem fdo114_6 : (fd 114 6).offset = 6 := by kernel_rfl
theorem fl114_7 : (fl 114)[7]? = some (fd 114 7) := by kernel_rfl
theorem fdt114_7 : (fd 114 7).type = 110 := by kernel_rfl
theorem fdo114_7 : (fd 114 7).offset = 7 := by kernel_rfl
theorem fl114_8 : (fl 114)[8]? = some (fd 114 8) := by kernel_rfl
theorem fdt114_8 : (fd 114 8).type = 111 := by kernel_rfl
theorem fdo114_8 : (fd 114 8).offset = 8 := by kernel_rfl
theorem fl114_9 : (fl 114)[9]? = some (fd 114 9) := by kernel_rfl
theorem fdt114_9 : (fd 114 9).type = 112 := by kernel_rfl
theorem fdo114_9 : (fd 114 9).offset = 9 := by kernel_rfl
theorem fl114_10 : (fl 114)[10]? = some (fd 114 10) := by kernel_rfl
theorem fdt114_10 : (fd 114 10).type = 113 := by kernel_rfl
theorem fdo114_10 : (fd 114 10).offset = 10 := by kernel_rfl
theorem tt115 : tt 115 = some ⟨.struct (fl 115), 11, 48, .agg #[.int .u64 0, .int .u64 0, .int .u32 0, .int .u8 0, .int .u8 0, .int .u8 0, .int .u8 0, .nilFunc, .pointer none, .int .i32 0, .int .i32 0], false⟩ := by kernel_rfl
theorem fll115 : (fl 115).toList = [fd 115 0, fd 115 1, fd 115 2, fd 115 3, fd 115 4, fd 115 5, fd 115 6, fd 115 7, fd 115 8, fd 115 9, fd 115 10] := by kernel_rfl
theorem fl115_0 : (fl 115)[0]? = some (fd 115 0) := by kernel_rfl
theorem fdt115_0 : (fd 115 0).type = 12 := by kernel_rfl
theorem fdo115_0 : (fd 115 0).offset = 0 := by kernel_rfl
theorem fl115_1 : (fl 115)[1]? = some (fd 115 1) := by kernel_rfl
theorem fdt115_1 : (fd 115 1).type = 12 := by kernel_rfl
theorem fdo115_1 : (fd 115 1).offset = 1 := by kernel_rfl
theorem fl115_2 : (fl 115)[2]? = some (fd 115 2) := by kernel_rfl
theorem fdt115_2 : (fd 115 2).type = 87 := by kernel_rfl
theorem fdo115_2 : (fd 115 2).offset = 2 := by kernel_rfl
theorem fl115_3 : (fl 115)[3]? = some (fd 115 3) := by kernel_rfl
theorem fdt115_3 : (fd 115 3).type = 108 := by kernel_rfl
theorem fdo115_3 : (fd 115 3).offset = 3 := by kernel_rfl
theorem fl115_4 : (fl 115)[4]? = some (fd 115 4) := by kernel_rfl
theorem fdt115_4 : (fd 115 4).type = 5 := by kernel_rfl
theorem fdo115_4 : (fd 115 4).offset = 4 := by kernel_rfl
theorem fl115_5 : (fl 115)[5]? = some (fd 115 5) := by kernel_rfl
theorem fdt115_5 : (fd 115 5).type = 5 := by kernel_rfl
theorem fdo115_5 : (fd 115 5).offset = 5 := by kernel_rfl
theorem fl115_6 : (fl 115)[6]? = some (fd 115 6) := by kernel_rfl
theorem fdt115_6 : (fd 115 6).type = 109 := by kernel_rfl
theorem fdo115_6 : (fd 115 6).offset = 6 := by kernel_rfl
theorem fl115_7 : (fl 115)[7]? = some (fd 115 7) := by kernel_rfl
theorem fdt115_7 : (fd 115 7).type = 110 := by kernel_rfl
theorem fdo115_7 : (fd 115 7).offset = 7 := by kernel_rfl
theorem fl115_8 : (fl 115)[8]? = some (fd 115 8) := by kernel_rfl
theorem fdt115_8 : (fd 115 8).type = 111 := by kernel_rfl
theorem fdo115_8 : (fd 115 8).offset = 8 := by kernel_rfl
theorem fl115_9 : (fl 115)[9]? = some (fd 115 9) := by kernel_rfl
theorem fdt115_9 : (fd 115 9).type = 112 := by kernel_rfl
theorem fdo115_9 : (fd 115 9).offset = 9 := by kernel_rfl
theorem fl115_10 : (fl 115)[10]? = some (fd 115 10) := by kernel_rfl
theorem fdt115_10 : (fd 115 10).type = 113 := by kernel_rfl
theorem fdo115_10 : (fd 115 10).offset = 10 := by kernel_rfl
theorem fnok14 : FnOk Try.prog 14 := ⟨_, Try.func14, by kernel_rfl, by kernel_rfl⟩
theorem fnok15 : FnOk Try.prog 15 := ⟨_, Try.func15, by kernel_rfl, by kernel_rfl⟩
theorem fnok17 : FnOk Try.prog 17 := ⟨_, Try.func17, by kernel_rfl, by kernel_rfl⟩
theorem fnok18 : FnOk Try.prog 18 := ⟨_, Try.func18, by kernel_rfl, by kernel_rfl⟩
theorem fnok19 : FnOk Try.prog 19 := ⟨_, Try.func19, by kernel_rfl, by kernel_rfl⟩
theorem fnok20 : FnOk Try.prog 20 := ⟨_, Try.func20, by kernel_rfl, by kernel_rfl⟩
theorem fnok21 : FnOk Try.prog 21 := ⟨_, Try.func21, by kernel_rfl, by kernel_rfl⟩
theorem fnok23 : FnOk Try.prog 23 := ⟨_, Try.func23, by kernel_rfl, by kernel_rfl⟩
theorem fnok24 : FnOk Try.prog 24 := ⟨_, Try.func24, by kernel_rfl, by kernel_rfl⟩
theorem fnok25 : FnOk Try.prog 25 := ⟨_, Try.func25, by kernel_rfl, by kernel_rfl⟩
theorem fnok28 : FnOk Try.prog 28 := ⟨_, Try.func28, by kernel_rfl, by kernel_rfl⟩
theorem fnok29 : FnOk Try.prog 29 := ⟨_, Try.func29, by kernel_rfl, by kernel_rfl⟩
theorem fnok30 : FnOk Try.prog 30 := ⟨_, Try.func30, by kernel_rfl, by kernel_rfl⟩
theorem fnok31 : FnOk Try.prog 31 := ⟨_, Try.func31, by kernel_rfl, by kernel_rfl⟩
theorem fnok32 : FnOk Try.prog 32 := ⟨_, Try.func32, by kernel_rfl, by kernel_rfl⟩
theorem fnok33 : FnOk Try.prog 33 := ⟨_, Try.func33, by kernel_rfl, by kernel_rfl⟩
theorem fnok34 : FnOk Try.prog 34 := ⟨_, Try.func34, by kernel_rfl, by kernel_rfl⟩
theorem fnok35 : FnOk Try.prog 35 := ⟨_, Try.func35, by kernel_rfl, by kernel_rfl⟩
theorem fnok36 : FnOk Try.prog 36 := ⟨_, Try.func36, by kernel_rfl, by kernel_rfl⟩
theorem fnok37 : FnOk Try.prog 37 := ⟨_, Try.func37, by kernel_rfl, by kernel_rfl⟩
theorem fnok38 : FnOk Try.prog 38 := ⟨_, Try.func38, by kernel_rfl, by kernel_rfl⟩
theorem fnok40 : FnOk Try.prog 40 := ⟨_, Try.func40, by kernel_rfl, by kernel_rfl⟩
theorem fnok41 : FnOk Try.prog 41 := ⟨_, Try.func41, by kernel_rfl, by kernel_rfl⟩
theorem fnok44 : FnOk Try.prog 44 := ⟨_, Try.func44, by kernel_rfl, by kernel_rfl⟩
theorem fnok45 : FnOk Try.prog 45 := ⟨_, Try.func45, by kernel_rfl, by kernel_rfl⟩
theorem fnok46 : FnOk Try.prog 46 := ⟨_, Try.func46, by kernel_rfl, by kernel_rfl⟩
theorem fnok47 : FnOk Try.prog 47 := ⟨_, Try.func47, by kernel_rfl, by kernel_rfl⟩
theorem fnok48 : FnOk Try.prog 48 := ⟨_, Try.func48, by kernel_rfl, by kernel_rfl⟩
theorem fnok49 : FnOk Try.prog 49 := ⟨_, Try.func49, by kernel_rfl, by kernel_rfl⟩
theorem fnok50 : FnOk Try.prog 50 := ⟨_, Try.func50, by kernel_rfl, by kernel_rfl⟩
theorem fnok62 : FnOk Try.prog 62 := ⟨_, Try.func62, by kernel_rfl, by kernel_rfl⟩
theorem fnok63 : FnOk Try.prog 63 := ⟨_, Try.func63, by kernel_rfl, by kernel_rfl⟩
theorem tyA0 : (tt 1 = some ⟨.func #[] #[] false, 1, 8, .nilFunc, false⟩) ∧ (tt 2 = some ⟨.int .i64, 1, 8, .int .i64 0, false⟩) ∧ (tt 3 = some ⟨.int .i64, 1, 8, .int .i64 0, false⟩) ∧ (tt 4 = some ⟨.bool, 1, 1, .bool false, false⟩) ∧ (tt 5 = some ⟨.int .u8, 1, 1, .int .u8 0, false⟩) ∧ (tt 6 = some ⟨.int .u8, 1, 1, .int .u8 0, false⟩) ∧ (tt 7 = some ⟨.struct (fl 7), 4, 24, .agg #[.int .i64 0, .int .i64 0, .bool false, .int .u8 0], false⟩) ∧ ((Value.agg #[.int .i64 0, .int .i64 0, .bool false, .int .u8 0]).cells.toList = [.int .i64 0, .int .i64 0, .bool false, .int .u8 0]) ∧ ((fl 7).toList = [fd 7 0, fd 7 1, fd 7 2, fd 7 3]) ∧ ((fl 7)[0]? = some (fd 7 0)) ∧ ((fd 7 0).type = 2) ∧ ((fd 7 0).offset = 0) ∧ ((fl 7)[1]? = some (fd 7 1)) ∧ ((fd 7 1).type = 3) ∧ ((fd 7 1).offset = 1) ∧ ((fl 7)[2]? = some (fd 7 2)) ∧ ((fd 7 2).type = 4) ∧ ((fd 7 2).offset = 2) ∧ ((fl 7)[3]? = some (fd 7 3)) ∧ ((fd 7 3).type = 6) ∧ ((fd 7 3).offset = 3) ∧ (tt 8 = some ⟨.struct (fl 8), 4, 24, .agg #[.int .i64 0, .int .i64 0, .bool false, .int .u8 0], false⟩) ∧ ((fl 8).toList = [fd 8 0, fd 8 1, fd 8 2, fd 8 3]) ∧ ((fl 8)[0]? = some (fd 8 0)) ∧ ((fd 8 0).type = 2) ∧ ((fd 8 0).offset = 0) ∧ ((fl 8)[1]? = some (fd 8 1)) ∧ ((fd 8 1).type = 3) ∧ ((fd 8 1).offset = 1) ∧ ((fl 8)[2]? = some (fd 8 2)) ∧ ((fd 8 2).type = 4) ∧ ((fd 8 2).offset = 2) ∧ ((fl 8)[3]? = some (fd 8 3)) ∧ ((fd 8 3).type = 6) ∧ ((fd 8 3).offset = 3) ∧ (tt 9 = some ⟨.string, 1, 16, .string ByteArray.empty, false⟩) ∧ (tt 10 = some ⟨.string, 1, 16, .string ByteArray.empty, false⟩) ∧ (tt 11 = some ⟨.string, 1, 16, .string ByteArray.empty, false⟩) ∧ (tt 12 = some ⟨.int .u64, 1, 8, .int .u64 0, false⟩) ∧ (tt 13 = some ⟨.struct (fl 13), 2, 24, .agg #[.string ByteArray.empty, .int .u64 0], false⟩) := ⟨tt1, tt2, tt3, tt4, tt5, tt6, tt7, zc7, fll7, fl7_0, fdt7_0, fdo7_0, fl7_1, fdt7_1, fdo7_1, fl7_2, fdt7_2, fdo7_2, fl7_3, fdt7_3, fdo7_3, tt8, fll8, fl8_0, fdt8_0, fdo8_0, fl8_1, fdt8_1, fdo8_1, fl8_2, fdt8_2, fdo8_2, fl8_3, fdt8_3, fdo8_3, tt9, tt10, tt11, tt12, tt13⟩
theorem tyA1 : ((Value.agg #[.string ByteArray.empty, .int .u64 0]).cells.toList = [.string ByteArray.empty, .int .u64 0]) ∧ ((fl 13).toList = [fd 13 0, fd 13 1]) ∧ ((fl 13)[0]? = some (fd 13 0)) ∧ ((fd 13 0).type = 9) ∧ ((fd 13 0).offset = 0) ∧ ((fl 13)[1]? = some (fd 13 1)) ∧ ((fd 13 1).type = 12) ∧ ((fd 13 1).offset = 1) ∧ (tt 14 = some ⟨.struct (fl 14), 2, 24, .agg #[.string ByteArray.empty, .int .u64 0], false⟩) ∧ ((fl 14).toList = [fd 14 0, fd 14 1]) ∧ ((fl 14)[0]? = some (fd 14 0)) ∧ ((fd 14 0).type = 9) ∧ ((fd 14 0).offset = 0) ∧ ((fl 14)[1]? = some (fd 14 1)) ∧ ((fd 14 1).type = 12) ∧ ((fd 14 1).offset = 1) ∧ (tt 15 = some ⟨.pointer 103, 1, 8, .pointer none, false⟩) ∧ (tt 16 = some ⟨.pointer 106, 1, 8, .pointer none, false⟩) ∧ (tt 17 = some ⟨.pointer 115, 1, 8, .pointer none, false⟩) ∧ (tt 18 = some ⟨.struct (fl 18), 1, 8, .agg #[.pointer none], false⟩) ∧ ((Value.agg #[.pointer none]).cells.toList = [.pointer none]) ∧ ((fl 18).toList = [fd 18 0]) ∧ ((fl 18)[0]? = some (fd 18 0)) ∧ ((fd 18 0).type = 17) ∧ ((fd 18 0).offset = 0) ∧ (tt 19 = some ⟨.struct (fl 19), 1, 8, .agg #[.pointer none], false⟩) ∧ ((fl 19).toList = [fd 19 0]) ∧ ((fl 19)[0]? = some (fd 19 0)) ∧ ((fd 19 0).type = 17) ∧ ((fd 19 0).offset = 0) ∧ (tt 21 = some ⟨.int .i32, 1, 4, .int .i32 0, false⟩) ∧ (tt 22 = some ⟨.slice 53, 1, 24, .slice none 0 0, false⟩) ∧ (tt 23 = some ⟨.array 2 3, 2, 16, .agg #[.int .i64 0, .int .i64 0], false⟩) ∧ ((Value.agg #[.int .i64 0, .int .i64 0]).cells.toList = [.int .i64 0, .int .i64 0]) ∧ (tt 24 = some ⟨.slice 4, 1, 24, .slice none 0 0, false⟩) ∧ (tt 25 = some ⟨.slice 50, 1, 24, .slice none 0 0, false⟩) ∧ (tt 26 = some ⟨.struct (fl 26), 4, 64, .agg #[.int .i64 0, .int .i64 0, .slice none 0 0, .slice none 0 0], false⟩) ∧ ((Value.agg #[.int .i64 0, .int .i64 0, .slice none 0 0, .slice none 0 0]).cells.toList = [.int .i64 0, .int .i64 0, .slice none 0 0, .slice none 0 0]) ∧ ((fl 26).toList = [fd 26 0, fd 26 1, fd 26 2, fd 26 3]) ∧ ((fl 26)[0]? = some (fd 26 0)) := ⟨zc13, fll13, fl13_0, fdt13_0, fdo13_0, fl13_1, fdt13_1, fdo13_1, tt14, fll14, fl14_0, fdt14_0, fdo14_0, fl14_1, fdt14_1, fdo14_1, tt15, tt16, tt17, tt18, zc18, fll18, fl18_0, fdt18_0, fdo18_0, tt19, fll19, fl19_0, fdt19_0, fdo19_0, tt21, tt22, tt23, zc23, tt24, tt25, tt26, zc26, fll26, fl26_0⟩
theorem tyA2 : ((fd 26 0).type = 3) ∧ ((fd 26 0).offset = 0) ∧ ((fl 26)[1]? = some (fd 26 1)) ∧ ((fd 26 1).type = 3) ∧ ((fd 26 1).offset = 1) ∧ ((fl 26)[2]? = some (fd 26 2)) ∧ ((fd 26 2).type = 24) ∧ ((fd 26 2).offset = 2) ∧ ((fl 26)[3]? = some (fd 26 3)) ∧ ((fd 26 3).type = 25) ∧ ((fd 26 3).offset = 3) ∧ (tt 27 = some ⟨.struct (fl 27), 4, 64, .agg #[.int .i64 0, .int .i64 0, .slice none 0 0, .slice none 0 0], false⟩) ∧ ((fl 27).toList = [fd 27 0, fd 27 1, fd 27 2, fd 27 3]) ∧ ((fl 27)[0]? = some (fd 27 0)) ∧ ((fd 27 0).type = 3) ∧ ((fd 27 0).offset = 0) ∧ ((fl 27)[1]? = some (fd 27 1)) ∧ ((fd 27 1).type = 3) ∧ ((fd 27 1).offset = 1) ∧ ((fl 27)[2]? = some (fd 27 2)) ∧ ((fd 27 2).type = 24) ∧ ((fd 27 2).offset = 2) ∧ ((fl 27)[3]? = some (fd 27 3)) ∧ ((fd 27 3).type = 25) ∧ ((fd 27 3).offset = 3) ∧ (tt 28 = some ⟨.func #[22, 3, 23] #[27] false, 1, 8, .nilFunc, false⟩) ∧ (tt 29 = some ⟨.slice 32, 1, 24, .slice none 0 0, false⟩) ∧ (tt 30 = some ⟨.func #[3, 3] #[29] false, 1, 8, .nilFunc, false⟩) ∧ (tt 31 = some ⟨.func #[27, 32] #[4] false, 1, 8, .nilFunc, false⟩) ∧ (tt 32 = some ⟨.slice 3, 1, 24, .slice none 0 0, false⟩) ∧ (tt 33 = some ⟨.func #[] #[4] false, 1, 8, .nilFunc, false⟩) ∧ (tt 34 = some ⟨.func #[22, 3, 23] #[4] false, 1, 8, .nilFunc, false⟩) ∧ (tt 35 = some ⟨.int .u64, 1, 8, .int .u64 0, false⟩) ∧ (tt 36 = some ⟨.func #[27, 32, 3] #[32] false, 1, 8, .nilFunc, false⟩) ∧ (tt 37 = some ⟨.func #[32, 32] #[4] false, 1, 8, .nilFunc, false⟩) ∧ (tt 38 = some ⟨.func #[27, 32] #[32] false, 1, 8, .nilFunc, false⟩) ∧ (tt 39 = some ⟨.func #[22, 32, 23] #[4] false, 1, 8, .nilFunc, false⟩) ∧ (tt 40 = some ⟨.struct (fl 40), 4, 64, .agg #[.int .i64 0, .int .i64 0, .slice none 0 0, .slice none 0 0], false⟩) ∧ ((fl 40).toList = [fd 40 0, fd 40 1, fd 40 2, fd 40 3]) ∧ ((fl 40)[0]? = some (fd 40 0)) := ⟨fdt26_0, fdo26_0, fl26_1, fdt26_1, fdo26_1, fl26_2, fdt26_2, fdo26_2, fl26_3, fdt26_3, fdo26_3, tt27, fll27, fl27_0, fdt27_0, fdo27_0, fl27_1, fdt27_1, fdo27_1, fl27_2, fdt27_2, fdo27_2, fl27_3, fdt27_3, fdo27_3, tt28, tt29, tt30, tt31, tt32, tt33, tt34, tt35, tt36, tt37, tt38, tt39, tt40, fll40, fl40_0⟩
theorem tyA3 : ((fd 40 0).type = 3) ∧ ((fd 40 0).offset = 0) ∧ ((fl 40)[1]? = some (fd 40 1)) ∧ ((fd 40 1).type = 3) ∧ ((fd 40 1).offset = 1) ∧ ((fl 40)[2]? = some (fd 40 2)) ∧ ((fd 40 2).type = 24) ∧ ((fd 40 2).offset = 2) ∧ ((fl 40)[3]? = some (fd 40 3)) ∧ ((fd 40 3).type = 29) ∧ ((fd 40 3).offset = 3) ∧ (tt 41 = some ⟨.struct (fl 41), 4, 64, .agg #[.int .i64 0, .int .i64 0, .slice none 0 0, .slice none 0 0], false⟩) ∧ ((fl 41).toList = [fd 41 0, fd 41 1, fd 41 2, fd 41 3]) ∧ ((fl 41)[0]? = some (fd 41 0)) ∧ ((fd 41 0).type = 3) ∧ ((fd 41 0).offset = 0) ∧ ((fl 41)[1]? = some (fd 41 1)) ∧ ((fd 41 1).type = 3) ∧ ((fd 41 1).offset = 1) ∧ ((fl 41)[2]? = some (fd 41 2)) ∧ ((fd 41 2).type = 24) ∧ ((fd 41 2).offset = 2) ∧ ((fl 41)[3]? = some (fd 41 3)) ∧ ((fd 41 3).type = 29) ∧ ((fd 41 3).offset = 3) ∧ (tt 42 = some ⟨.int .i64, 1, 8, .int .i64 0, false⟩) ∧ (tt 44 = some ⟨.func #[27] #[41, 42] false, 1, 8, .nilFunc, false⟩) ∧ (tt 45 = some ⟨.func #[41] #[4] false, 1, 8, .nilFunc, false⟩) ∧ (tt 46 = some ⟨.func #[41, 32] #[4] false, 1, 8, .nilFunc, false⟩) ∧ (tt 47 = some ⟨.func #[41, 3, 32] #[4] false, 1, 8, .nilFunc, false⟩) ∧ (tt 48 = some ⟨.func #[22, 3, 23] #[41] false, 1, 8, .nilFunc, false⟩) ∧ (tt 49 = some ⟨.func #[41] #[27] false, 1, 8, .nilFunc, false⟩) ∧ (tt 50 = some ⟨.slice 52, 1, 24, .slice none 0 0, false⟩) ∧ (tt 51 = some ⟨.struct (fl 51), 2, 16, .agg #[.int .i64 0, .int .i64 0], true⟩) ∧ ((fl 51).toList = [fd 51 0, fd 51 1]) ∧ ((fl 51)[0]? = some (fd 51 0)) ∧ ((fd 51 0).type = 3) ∧ ((fd 51 0).offset = 0) ∧ ((fl 51)[1]? = some (fd 51 1)) ∧ ((fd 51 1).type = 3) := ⟨fdt40_0, fdo40_0, fl40_1, fdt40_1, fdo40_1, fl40_2, fdt40_2, fdo40_2, fl40_3, fdt40_3, fdo40_3, tt41, fll41, fl41_0, fdt41_0, fdo41_0, fl41_1, fdt41_1, fdo41_1, fl41_2, fdt41_2, fdo41_2, fl41_3, fdt41_3, fdo41_3, tt42, tt44, tt45, tt46, tt47, tt48, tt49, tt50, tt51, fll51, fl51_0, fdt51_0, fdo51_0, fl51_1, fdt51_1⟩
theorem tyA4 : ((fd 51 1).offset = 1) ∧ (tt 52 = some ⟨.struct (fl 52), 2, 16, .agg #[.int .i64 0, .int .i64 0], true⟩) ∧ ((fl 52).toList = [fd 52 0, fd 52 1]) ∧ ((fl 52)[0]? = some (fd 52 0)) ∧ ((fd 52 0).type = 3) ∧ ((fd 52 0).offset = 0) ∧ ((fl 52)[1]? = some (fd 52 1)) ∧ ((fd 52 1).type = 3) ∧ ((fd 52 1).offset = 1) ∧ (tt 53 = some ⟨.array 3 3, 3, 24, .agg #[.int .i64 0, .int .i64 0, .int .i64 0], false⟩) ∧ ((Value.agg #[.int .i64 0, .int .i64 0, .int .i64 0]).cells.toList = [.int .i64 0, .int .i64 0, .int .i64 0]) ∧ (tt 54 = some ⟨.func #[32, 3] #[4] false, 1, 8, .nilFunc, false⟩) ∧ (tt 55 = some ⟨.func #[32] #[] false, 1, 8, .nilFunc, false⟩) ∧ (tt 56 = some ⟨.func #[32] #[32] false, 1, 8, .nilFunc, false⟩) ∧ (tt 57 = some ⟨.func #[32, 58] #[4] false, 1, 8, .nilFunc, false⟩) ∧ (tt 58 = some ⟨.func #[3] #[4] false, 1, 8, .nilFunc, false⟩) ∧ (tt 59 = some ⟨.func #[27] #[4] false, 1, 8, .nilFunc, false⟩) ∧ (tt 60 = some ⟨.func #[32] #[9] false, 1, 8, .nilFunc, false⟩) ∧ (tt 63 = some ⟨.func #[29, 64] #[4] false, 1, 8, .nilFunc, false⟩) ∧ (tt 64 = some ⟨.func #[32] #[4] false, 1, 8, .nilFunc, false⟩) ∧ (tt 65 = some ⟨.func #[41, 32] #[3] false, 1, 8, .nilFunc, false⟩) ∧ (tt 66 = some ⟨.func #[41, 3, 32] #[3] false, 1, 8, .nilFunc, false⟩) ∧ (tt 67 = some ⟨.func #[24] #[24] false, 1, 8, .nilFunc, false⟩) ∧ (tt 68 = some ⟨.func #[32, 3, 3, 3] #[] false, 1, 8, .nilFunc, false⟩) ∧ (tt 69 = some ⟨.func #[35] #[3] false, 1, 8, .nilFunc, false⟩) ∧ (tt 70 = some ⟨.func #[32, 58] #[3] false, 1, 8, .nilFunc, false⟩) ∧ (tt 71 = some ⟨.func #[25, 74] #[4] false, 1, 8, .nilFunc, false⟩) ∧ (tt 72 = some ⟨.func #[50, 73] #[4] false, 1, 8, .nilFunc, false⟩) ∧ (tt 73 = some ⟨.func #[52] #[4] false, 1, 8, .nilFunc, false⟩) ∧ (tt 74 = some ⟨.func #[50] #[4] false, 1, 8, .nilFunc, false⟩) ∧ (tt 75 = some ⟨.slice 5, 1, 24, .slice none 0 0, false⟩) ∧ (tt 76 = some ⟨.func #[29, 64] #[3] false, 1, 8, .nilFunc, false⟩) ∧ (tt 77 = some ⟨.func #[41, 3, 3] #[3] false, 1, 8, .nilFunc, false⟩) ∧ (tt 78 = some ⟨.func #[32, 3, 3] #[] false, 1, 8, .nilFunc, false⟩) ∧ (tt 79 = some ⟨.int .i64, 1, 8, .int .i64 0, false⟩) ∧ (tt 81 = some ⟨.func #[32, 3, 3] #[3, 79] false, 1, 8, .nilFunc, false⟩) ∧ (tt 82 = some ⟨.func #[32, 3, 3] #[4] false, 1, 8, .nilFunc, false⟩) ∧ (tt 83 = some ⟨.func #[3, 3] #[4] false, 1, 8, .nilFunc, false⟩) ∧ (tt 84 = some ⟨.func #[32, 3, 3, 3] #[3] false, 1, 8, .nilFunc, false⟩) ∧ (tt 85 = some ⟨.func #[32, 3, 3, 3] #[3, 4] false, 1, 8, .nilFunc, false⟩) := ⟨fdo51_1, tt52, fll52, fl52_0, fdt52_0, fdo52_0, fl52_1, fdt52_1, fdo52_1, tt53, zc53, tt54, tt55, tt56, tt57, tt58, tt59, tt60, tt63, tt64, tt65, tt66, tt67, tt68, tt69, tt70, tt71, tt72, tt73, tt74, tt75, tt76, tt77, tt78, tt79, tt81, tt82, tt83, tt84, tt85⟩
theorem tyA5 : (tt 86 = some ⟨.func #[87] #[3] false, 1, 8, .nilFunc, false⟩) ∧ (tt 87 = some ⟨.int .u32, 1, 4, .int .u32 0, false⟩) ∧ (tt 88 = some ⟨.func #[89] #[3] false, 1, 8, .nilFunc, false⟩) ∧ (tt 89 = some ⟨.int .u64, 1, 8, .int .u64 0, false⟩) ∧ (tt 90 = some ⟨.func #[25, 74] #[3] false, 1, 8, .nilFunc, false⟩) ∧ (tt 91 = some ⟨.func #[50, 73] #[3] false, 1, 8, .nilFunc, false⟩) ∧ (tt 92 = some ⟨.int .u64, 1, 8, .int .u64 0, false⟩) ∧ (tt 93 = some ⟨.func #[3] #[35] false, 1, 8, .nilFunc, false⟩) ∧ (tt 94 = some ⟨.func #[] #[89] false, 1, 8, .nilFunc, false⟩) ∧ (tt 95 = some ⟨.func #[32, 3, 96] #[3] false, 1, 8, .nilFunc, false⟩) ∧ (tt 96 = some ⟨.pointer 3, 1, 8, .pointer none, false⟩) ∧ (tt 97 = some ⟨.func #[32, 3, 3, 3, 96] #[3] false, 1, 8, .nilFunc, false⟩) ∧ (tt 98 = some ⟨.pointer 92, 1, 8, .pointer none, false⟩) ∧ (tt 100 = some ⟨.func #[32, 3, 3, 96] #[3, 3] false, 1, 8, .nilFunc, false⟩) ∧ (tt 101 = some ⟨.func #[] #[9] false, 1, 8, .nilFunc, false⟩) ∧ (tt 102 = some ⟨.struct (fl 102), 4, 40, .agg #[.pointer none, .pointer none, .pointer none, .string ByteArray.empty], false⟩) ∧ ((Value.agg #[.pointer none, .pointer none, .pointer none, .string ByteArray.empty]).cells.toList = [.pointer none, .pointer none, .pointer none, .string ByteArray.empty]) ∧ ((fl 102).toList = [fd 102 0, fd 102 1, fd 102 2, fd 102 3]) ∧ ((fl 102)[0]? = some (fd 102 0)) ∧ ((fd 102 0).type = 17) ∧ ((fd 102 0).offset = 0) ∧ ((fl 102)[1]? = some (fd 102 1)) ∧ ((fd 102 1).type = 17) ∧ ((fd 102 1).offset = 1) ∧ ((fl 102)[2]? = some (fd 102 2)) ∧ ((fd 102 2).type = 17) ∧ ((fd 102 2).offset = 2) ∧ ((fl 102)[3]? = some (fd 102 3)) ∧ ((fd 102 3).type = 9) ∧ ((fd 102 3).offset = 3) ∧ (tt 103 = some ⟨.struct (fl 103), 4, 40, .agg #[.pointer none, .pointer none, .pointer none, .string ByteArray.empty], false⟩) ∧ ((fl 103).toList = [fd 103 0, fd 103 1, fd 103 2, fd 103 3]) ∧ ((fl 103)[0]? = some (fd 103 0)) ∧ ((fd 103 0).type = 17) ∧ ((fd 103 0).offset = 0) ∧ ((fl 103)[1]? = some (fd 103 1)) ∧ ((fd 103 1).type = 17) ∧ ((fd 103 1).offset = 1) ∧ ((fl 103)[2]? = some (fd 103 2)) ∧ ((fd 103 2).type = 17) := ⟨tt86, tt87, tt88, tt89, tt90, tt91, tt92, tt93, tt94, tt95, tt96, tt97, tt98, tt100, tt101, tt102, zc102, fll102, fl102_0, fdt102_0, fdo102_0, fl102_1, fdt102_1, fdo102_1, fl102_2, fdt102_2, fdo102_2, fl102_3, fdt102_3, fdo102_3, tt103, fll103, fl103_0, fdt103_0, fdo103_0, fl103_1, fdt103_1, fdo103_1, fl103_2, fdt103_2⟩
theorem tyA6 : ((fd 103 2).offset = 2) ∧ ((fl 103)[3]? = some (fd 103 3)) ∧ ((fd 103 3).type = 9) ∧ ((fd 103 3).offset = 3) ∧ (tt 107 = some ⟨.func #[] #[3] false, 1, 8, .nilFunc, false⟩) ∧ (tt 108 = some ⟨.int .u8, 1, 1, .int .u8 0, false⟩) ∧ (tt 109 = some ⟨.int .u8, 1, 1, .int .u8 0, false⟩) ∧ (tt 110 = some ⟨.func #[116, 116] #[4] false, 1, 8, .nilFunc, false⟩) ∧ (tt 111 = some ⟨.pointer 5, 1, 8, .pointer none, false⟩) ∧ (tt 112 = some ⟨.int .i32, 1, 4, .int .i32 0, false⟩) ∧ (tt 113 = some ⟨.int .i32, 1, 4, .int .i32 0, false⟩) ∧ (tt 114 = some ⟨.struct (fl 114), 11, 48, .agg #[.int .u64 0, .int .u64 0, .int .u32 0, .int .u8 0, .int .u8 0, .int .u8 0, .int .u8 0, .nilFunc, .pointer none, .int .i32 0, .int .i32 0], false⟩) ∧ ((Value.agg #[.int .u64 0, .int .u64 0, .int .u32 0, .int .u8 0, .int .u8 0, .int .u8 0, .int .u8 0, .nilFunc, .pointer none, .int .i32 0, .int .i32 0]).cells.toList = [.int .u64 0, .int .u64 0, .int .u32 0, .int .u8 0, .int .u8 0, .int .u8 0, .int .u8 0, .nilFunc, .pointer none, .int .i32 0, .int .i32 0]) ∧ ((fl 114).toList = [fd 114 0, fd 114 1, fd 114 2, fd 114 3, fd 114 4, fd 114 5, fd 114 6, fd 114 7, fd 114 8, fd 114 9, fd 114 10]) ∧ ((fl 114)[0]? = some (fd 114 0)) ∧ ((fd 114 0).type = 12) ∧ ((fd 114 0).offset = 0) ∧ ((fl 114)[1]? = some (fd 114 1)) ∧ ((fd 114 1).type = 12) ∧ ((fd 114 1).offset = 1) ∧ ((fl 114)[2]? = some (fd 114 2)) ∧ ((fd 114 2).type = 87) ∧ ((fd 114 2).offset = 2) ∧ ((fl 114)[3]? = some (fd 114 3)) ∧ ((fd 114 3).type = 108) ∧ ((fd 114 3).offset = 3) ∧ ((fl 114)[4]? = some (fd 114 4)) ∧ ((fd 114 4).type = 5) ∧ ((fd 114 4).offset = 4) ∧ ((fl 114)[5]? = some (fd 114 5)) ∧ ((fd 114 5).type = 5) ∧ ((fd 114 5).offset = 5) ∧ ((fl 114)[6]? = some (fd 114 6)) ∧ ((fd 114 6).type = 109) ∧ ((fd 114 6).offset = 6) ∧ ((fl 114)[7]? = some (fd 114 7)) ∧ ((fd 114 7).type = 110) ∧ ((fd 114 7).offset = 7) ∧ ((fl 114)[8]? = some (fd 114 8)) ∧ ((fd 114 8).type = 111) := ⟨fdo103_2, fl103_3, fdt103_3, fdo103_3, tt107, tt108, tt109, tt110, tt111, tt112, tt113, tt114, zc114, fll114, fl114_0, fdt114_0, fdo114_0, fl114_1, fdt114_1, fdo114_1, fl114_2, fdt114_2, fdo114_2, fl114_3, fdt114_3, fdo114_3, fl114_4, fdt114_4, fdo114_4, fl114_5, fdt114_5, fdo114_5, fl114_6, fdt114_6, fdo114_6, fl114_7, fdt114_7, fdo114_7, fl114_8, fdt114_8⟩
theorem tyA7 : ((fd 114 8).offset = 8) ∧ ((fl 114)[9]? = some (fd 114 9)) ∧ ((fd 114 9).type = 112) ∧ ((fd 114 9).offset = 9) ∧ ((fl 114)[10]? = some (fd 114 10)) ∧ ((fd 114 10).type = 113) ∧ ((fd 114 10).offset = 10) ∧ (tt 115 = some ⟨.struct (fl 115), 11, 48, .agg #[.int .u64 0, .int .u64 0, .int .u32 0, .int .u8 0, .int .u8 0, .int .u8 0, .int .u8 0, .nilFunc, .pointer none, .int .i32 0, .int .i32 0], false⟩) ∧ ((fl 115).toList = [fd 115 0, fd 115 1, fd 115 2, fd 115 3, fd 115 4, fd 115 5, fd 115 6, fd 115 7, fd 115 8, fd 115 9, fd 115 10]) ∧ ((fl 115)[0]? = some (fd 115 0)) ∧ ((fd 115 0).type = 12) ∧ ((fd 115 0).offset = 0) ∧ ((fl 115)[1]? = some (fd 115 1)) ∧ ((fd 115 1).type = 12) ∧ ((fd 115 1).offset = 1) ∧ ((fl 115)[2]? = some (fd 115 2)) ∧ ((fd 115 2).type = 87) ∧ ((fd 115 2).offset = 2) ∧ ((fl 115)[3]? = some (fd 115 3)) ∧ ((fd 115 3).type = 108) ∧ ((fd 115 3).offset = 3) ∧ ((fl 115)[4]? = some (fd 115 4)) ∧ ((fd 115 4).type = 5) ∧ ((fd 115 4).offset = 4) ∧ ((fl 115)[5]? = some (fd 115 5)) ∧ ((fd 115 5).type = 5) ∧ ((fd 115 5).offset = 5) ∧ ((fl 115)[6]? = some (fd 115 6)) ∧ ((fd 115 6).type = 109) ∧ ((fd 115 6).offset = 6) ∧ ((fl 115)[7]? = some (fd 115 7)) ∧ ((fd 115 7).type = 110) ∧ ((fd 115 7).offset = 7) ∧ ((fl 115)[8]? = some (fd 115 8)) ∧ ((fd 115 8).type = 111) ∧ ((fd 115 8).offset = 8) ∧ ((fl 115)[9]? = some (fd 115 9)) ∧ ((fd 115 9).type = 112) ∧ ((fd 115 9).offset = 9) ∧ ((fl 115)[10]? = some (fd 115 10)) := ⟨fdo114_8, fl114_9, fdt114_9, fdo114_9, fl114_10, fdt114_10, fdo114_10, tt115, fll115, fl115_0, fdt115_0, fdo115_0, fl115_1, fdt115_1, fdo115_1, fl115_2, fdt115_2, fdo115_2, fl115_3, fdt115_3, fdo115_3, fl115_4, fdt115_4, fdo115_4, fl115_5, fdt115_5, fdo115_5, fl115_6, fdt115_6, fdo115_6, fl115_7, fdt115_7, fdo115_7, fl115_8, fdt115_8, fdo115_8, fl115_9, fdt115_9, fdo115_9, fl115_10⟩
theorem tyA8 : ((fd 115 10).type = 113) ∧ ((fd 115 10).offset = 10) := ⟨fdt115_10, fdo115_10⟩
theorem tyA : type_of% (And.intro tyA0 (And.intro tyA1 (And.intro tyA2 (And.intro tyA3 (And.intro tyA4 (And.intro tyA5 (And.intro tyA6 (And.intro tyA7 (tyA8))))))))) := And.intro tyA0 (And.intro tyA1 (And.intro tyA2 (And.intro tyA3 (And.intro tyA4 (And.intro tyA5 (And.intro tyA6 (And.intro tyA7 (tyA8))))))))
attribute [irreducible] tt fl fd
end Go.Proofs.Ytbhjmioegdgpnaa
