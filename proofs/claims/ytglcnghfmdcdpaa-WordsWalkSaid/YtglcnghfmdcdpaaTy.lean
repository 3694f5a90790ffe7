import Derived.Test.YtglcnghfmdcdpaaChecked
import Derived.Test.YtglcnghfmdcdpaaAbD
import Derived.KernelRfl
namespace Go.Proofs.Ytglcnghfmdcdpaa
open Go.Ab
set_option linter.unusedSimpArgs false
noncomputable def tt : TypeId → Option TI := ttOf Try.prog
theorem ttok : TTok Try.prog tt := ttOf_ok _
noncomputable def fl (T : TypeId) : Array Field := flOf Try.prog T
noncomputable def fd (T : TypeId) (k : Nat) : Field := (fl T).getD k default
theorem tt1 : tt 1 = some ⟨.func #[] #[] false, 1, 8, .nilFunc, false⟩ := by kernel_rfl
theorem tt2 : tt 2 = some ⟨.int .i64, 1, 8, .int .i64 0, false⟩ := by kernel_rfl
theorem tt3 : tt 3 = some ⟨.int .i64, 1, 8, .int .i64 0, false⟩ := by kernel_rfl
theorem tt4 : tt 4 = some ⟨.bool, 1, 1, .bool false, false⟩ := by kernel_rfl
theorem tt5 : tt 5 = some ⟨.int .u8, 1, 1, .int .u8 0, false⟩ := by kernel_rfl
theorem tt6 : tt 6 = some ⟨.int .u8, 1, 1, .int .u8 0, false⟩ := by kernel_rfl
theorem tt7 : tt 7 = some ⟨.struct (fl 7), 4, 24, .agg #[.int .i64 0, .int .i64 0, .bool false, .int .u8 0], false⟩ := by kernel_rfl
theorem zc7 : (Value.agg #[.int .i64 0, .int .i64 0, .bool false, .int .u8 0]).cells.toList = [.int .i64 0, .int .i64 0, .bool false, .int .u8 0] := by kernel_rfl
theorem fll7 : (fl 7).toList = [fd 7 0, fd 7 1, fd 7 2, fd 7 3] := by kernel_rfl
theorem fl7_0 : (fl 7)[0]? = some (fd 7 0) := by kernel_rfl
theorem fdt7_0 : (fd 7 0).type = 2 := by kernel_rfl
theorem fdo7_0 : (fd 7 0).offset = 0 := by kernel_rfl
theorem fl7_1 : (fl 7)[1]? = some (fd 7 1) := by kernel_rfl
theorem fdt7_1 : (fd 7 1).type = 3 := by kernel_rfl
theorem fdo7_1 : (fd 7 1).offset = 1 := by kernel_rfl
theorem fl7_2 : (fl 7)[2]? = some (fd 7 2) := by kernel_rfl
theorem fdt7_2 : (fd 7 2).type = 4 := by kernel_rfl
theorem fdo7_2 : (fd 7 2).offset = 2 := by kernel_rfl
theorem fl7_3 : (fl 7)[3]? = some (fd 7 3) := by kernel_rfl
theorem fdt7_3 : (fd 7 3).type = 6 := by kernel_rfl
theorem fdo7_3 : (fd 7 3).offset = 3 := by kernel_rfl
theorem tt8 : tt 8 = some ⟨.struct (fl 8), 4, 24, .agg #[.int .i64 0, .int .i64 0, .bool false, .int .u8 0], false⟩ := by kernel_rfl
theorem fll8 : (fl 8).toList = [fd 8 0, fd 8 1, fd 8 2, fd 8 3] := by kernel_rfl
theorem fl8_0 : (fl 8)[0]? = some (fd 8 0) := by kernel_rfl
theorem fdt8_0 : (fd 8 0).type = 2 := by kernel_rfl
theorem fdo8_0 : (fd 8 0).offset = 0 := by kernel_rfl
theorem fl8_1 : (fl 8)[1]? = some (fd 8 1) := by kernel_rfl
theorem fdt8_1 : (fd 8 1).type = 3 := by kernel_rfl
theorem fdo8_1 : (fd 8 1).offset = 1 := by kernel_rfl
theorem fl8_2 : (fl 8)[2]? = some (fd 8 2) := by kernel_rfl
theorem fdt8_2 : (fd 8 2).type = 4 := by kernel_rfl
theorem fdo8_2 : (fd 8 2).offset = 2 := by kernel_rfl
theorem fl8_3 : (fl 8)[3]? = some (fd 8 3) := by kernel_rfl
theorem fdt8_3 : (fd 8 3).type = 6 := by kernel_rfl
theorem fdo8_3 : (fd 8 3).offset = 3 := by kernel_rfl
theorem tt9 : tt 9 = some ⟨.string, 1, 16, .string ByteArray.empty, false⟩ := by kernel_rfl
theorem tt10 : tt 10 = some ⟨.string, 1, 16, .string ByteArray.empty, false⟩ := by kernel_rfl
theorem tt11 : tt 11 = some ⟨.string, 1, 16, .string ByteArray.empty, false⟩ := by kernel_rfl
theorem tt12 : tt 12 = some ⟨.int .u64, 1, 8, .int .u64 0, false⟩ := by kernel_rfl
theorem tt13 : tt 13 = some ⟨.struct (fl 13), 2, 24, .agg #[.string ByteArray.empty, .int .u64 0], false⟩ := by kernel_rfl
theorem zc13 : (Value.agg #[.string ByteArray.empty, .int .u64 0]).cells.toList = [.string ByteArray.empty, .int .u64 0] := by kernel_rfl
theorem fll13 : (fl 13).toList = [fd 13 0, fd 13 1] := by kernel_rfl
theorem fl13_0 : (fl 13)[0]? = some (fd 13 0) := by kernel_rfl
theorem fdt13_0 : (fd 13 0).type = 9 := by kernel_rfl
theorem fdo13_0 : (fd 13 0).offset = 0 := by kernel_rfl
theorem fl13_1 : (fl 13)[1]? = some (fd 13 1) := by kernel_rfl
theorem fdt13_1 : (fd 13 1).type = 12 := by kernel_rfl
theorem fdo13_1 : (fd 13 1).offset = 1 := by kernel_rfl
theorem tt14 : tt 14 = some ⟨.struct (fl 14), 2, 24, .agg #[.string ByteArray.empty, .int .u64 0], false⟩ := by kernel_rfl
theorem fll14 : (fl 14).toList = [fd 14 0, fd 14 1] := by kernel_rfl
theorem fl14_0 : (fl 14)[0]? = some (fd 14 0) := by kernel_rfl
theorem fdt14_0 : (fd 14 0).type = 9 := by kernel_rfl
theorem fdo14_0 : (fd 14 0).offset = 0 := by kernel_rfl
theorem fl14_1 : (fl 14)[1]? = some (fd 14 1) := by kernel_rfl
theorem fdt14_1 : (fd 14 1).type = 12 := by kernel_rfl
theorem fdo14_1 : (fd 14 1).offset = 1 := by kernel_rfl
theorem tt15 : tt 15 = some ⟨.pointer 59, 1, 8, .pointer none, false⟩ := by kernel_rfl
theorem tt16 : tt 16 = some ⟨.pointer 62, 1, 8, .pointer none, false⟩ := by kernel_rfl
theorem tt17 : tt 17 = some ⟨.pointer 72, 1, 8, .pointer none, false⟩ := by kernel_rfl
theorem tt18 : tt 18 = some ⟨.struct (fl 18), 1, 8, .agg #[.pointer none], false⟩ := by kernel_rfl
theorem zc18 : (Value.agg #[.pointer none]).cells.toList = [.pointer none] := by kernel_rfl
theorem fll18 : (fl 18).toList = [fd 18 0] := by kernel_rfl
theorem fl18_0 : (fl 18)[0]? = some (fd 18 0) := by kernel_rfl
theorem fdt18_0 : (fd 18 0).type = 17 := by kernel_rfl
theorem fdo18_0 : (fd 18 0).offset = 0 := by kernel_rfl
theorem tt19 : tt 19 = some ⟨.struct (fl 19), 1, 8, .agg #[.pointer none], false⟩ := by kernel_rfl
theorem fll19 : (fl 19).toList = [fd 19 0] := by kernel_rfl
theorem fl19_0 : (fl 19)[0]? = some (fd 19 0) := by kernel_rfl
theorem fdt19_0 : (fd 19 0).type = 17 := by kernel_rfl
theorem fdo19_0 : (fd 19 0).offset = 0 := by kernel_rfl
theorem tt21 : tt 21 = some ⟨.int .i32, 1, 4, .int .i32 0, false⟩ := by kernel_rfl
theorem tt22 : tt 22 = some ⟨.slice 23, 1, 24, .slice none 0 0, false⟩ := by kernel_rfl
theorem tt23 : tt 23 = some ⟨.array 3 3, 3, 24, .agg #[.int .i64 0, .int .i64 0, .int .i64 0], false⟩ := by kernel_rfl
theorem zc23 : (Value.agg #[.int .i64 0, .int .i64 0, .int .i64 0]).cells.toList = [.int .i64 0, .int .i64 0, .int .i64 0] := by kernel_rfl
theorem tt24 : tt 24 = some ⟨.func #[] #[4] false, 1, 8, .nilFunc, false⟩ := by kernel_rfl
theorem tt25 : tt 25 = some ⟨.slice 4, 1, 24, .slice none 0 0, false⟩ := by kernel_rfl
theorem tt26 : tt 26 = some ⟨.slice 34, 1, 24, .slice none 0 0, false⟩ := by kernel_rfl
theorem tt27 : tt 27 = some ⟨.struct (fl 27), 4, 64, .agg #[.int .i64 0, .int .i64 0, .slice none 0 0, .slice none 0 0], false⟩ := by kernel_rfl
theorem zc27 : (Value.agg #[.int .i64 0, .int .i64 0, .slice none 0 0, .slice none 0 0]).cells.toList = [.int .i64 0, .int .i64 0, .slice none 0 0, .slice none 0 0] := by kernel_rfl
theorem fll27 : (fl 27).toList = [fd 27 0, fd 27 1, fd 27 2, fd 27 3] := by kernel_rfl
theorem fl27_0 : (fl 27)[0]? = some (fd 27 0) := by kernel_rfl
theorem fdt27_0 : (fd 27 0).type = 3 := by kernel_rfl
theorem fdo27_0 : (fd 27 0).offset = 0 := by kernel_rfl
theorem fl27_1 : (fl 27)[1]? = some (fd 27 1) := by kernel_rfl
theorem fdt27_1 : (fd 27 1).type = 3 := by kernel_rfl
theorem fdo27_1 : (fd 27 1).offset = 1 := by kernel_rfl
theorem fl27_2 : (fl 27)[2]? = some (fd 27 2) := by kernel_rfl
theorem fdt27_2 : (fd 27 2).type = 25 := by kernel_rfl
theorem fdo27_2 : (fd 27 2).offset = 2 := by kernel_rfl
theorem fl27_3 : (fl 27)[3]? = some (fd 27 3) := by kernel_rfl
theorem fdt27_3 : (fd 27 3).type = 26 := by kernel_rfl
theorem fdo27_3 : (fd 27 3).offset = 3 := by kernel_rfl
theorem tt28 : tt 28 = some ⟨.struct (fl 28), 4, 64, .agg #[.int .i64 0, .int .i64 0, .slice none 0 0, .slice none 0 0], false⟩ := by kernel_rfl
theorem fll28 : (fl 28).toList = [fd 28 0, fd 28 1, fd 28 2, fd 28 3] := by kernel_rfl
theorem fl28_0 : (fl 28)[0]? = some (fd 28 0) := by kernel_rfl
theorem fdt28_0 : (fd 28 0).type = 3 := by kernel_rfl
theorem fdo28_0 : (fd 28 0).offset = 0 := by kernel_rfl
theorem fl28_1 : (fl 28)[1]? = some (fd 28 1) := by kernel_rfl
theorem fdt28_1 : (fd 28 1).type = 3 := by kernel_rfl
theorem fdo28_1 : (fd 28 1).offset = 1 := by kernel_rfl
theorem fl28_2 : (fl 28)[2]? = some (fd 28 2) := by kernel_rfl
theorem fdt28_2 : (fd 28 2).type = 25 := by kernel_rfl
theorem fdo28_2 : (fd 28 2).offset = 2 := by kernel_rfl
theorem fl28_3 : (fl 28)[3]? = some (fd 28 3) := by kernel_rfl
theorem fdt28_3 : (fd 28 3).type = 26 := by kernel_rfl
theorem fdo28_3 : (fd 28 3).offset = 3 := by kernel_rfl
theorem tt29 : tt 29 = some ⟨.func #[22, 3, 30] #[28] false, 1, 8, .nilFunc, false⟩ := by kernel_rfl
theorem tt30 : tt 30 = some ⟨.array 2 3, 2, 16, .agg #[.int .i64 0, .int .i64 0], false⟩ := by kernel_rfl
theorem zc30 : (Value.agg #[.int .i64 0, .int .i64 0]).cells.toList = [.int .i64 0, .int .i64 0] := by kernel_rfl
theorem tt31 : tt 31 = some ⟨.int .u64, 1, 8, .int .u64 0, false⟩ := by kernel_rfl
theorem tt32 : tt 32 = some ⟨.func #[3, 3] #[26] false, 1, 8, .nilFunc, false⟩ := by kernel_rfl
theorem tt33 : tt 33 = some ⟨.func #[28, 3, 34] #[4] false, 1, 8, .nilFunc, false⟩ := by kernel_rfl
theorem tt34 : tt 34 = some ⟨.slice 3, 1, 24, .slice none 0 0, false⟩ := by kernel_rfl
theorem tt35 : tt 35 = some ⟨.func #[34, 34] #[4] false, 1, 8, .nilFunc, false⟩ := by kernel_rfl
theorem tt36 : tt 36 = some ⟨.func #[47] #[] false, 1, 8, .nilFunc, false⟩ := by kernel_rfl
theorem tt37 : tt 37 = some ⟨.func #[47] #[] false, 1, 8, .nilFunc, false⟩ := by kernel_rfl
theorem tt38 : tt 38 = some ⟨.func #[28, 3] #[37] false, 1, 8, .nilFunc, false⟩ := by kernel_rfl
theorem tt39 : tt 39 = some ⟨.func #[28, 3, 3] #[26] false, 1, 8, .nilFunc, false⟩ := by kernel_rfl
theorem tt40 : tt 40 = some ⟨.func #[22, 3, 23] #[4] false, 1, 8, .nilFunc, false⟩ := by kernel_rfl
theorem tt42 : tt 42 = some ⟨.func #[28, 3] #[34, 4] false, 1, 8, .nilFunc, false⟩ := by kernel_rfl
theorem tt43 : tt 43 = some ⟨.func #[28] #[25] false, 1, 8, .nilFunc, false⟩ := by kernel_rfl
theorem tt44 : tt 44 = some ⟨.func #[28, 34] #[34, 4] false, 1, 8, .nilFunc, false⟩ := by kernel_rfl
theorem tt45 : tt 45 = some ⟨.func #[22, 30, 34] #[4] false, 1, 8, .nilFunc, false⟩ := by kernel_rfl
theorem tt46 : tt 46 = some ⟨.func #[28, 3, 34] #[3] false, 1, 8, .nilFunc, false⟩ := by kernel_rfl
theorem tt47 : tt 47 = some ⟨.func #[34] #[4] false, 1, 8, .nilFunc, false⟩ := by kernel_rfl
theorem tt48 : tt 48 = some ⟨.func #[28] #[4] false, 1, 8, .nilFunc, false⟩ := by kernel_rfl
theorem tt49 : tt 49 = some ⟨.func #[28, 25, 3, 3, 34, 47] #[4] false, 1, 8, .nilFunc, false⟩ := by kernel_rfl
theorem tt50 : tt 50 = some ⟨.func #[34, 51] #[4] false, 1, 8, .nilFunc, false⟩ := by kernel_rfl
theorem tt51 : tt 51 = some ⟨.func #[3] #[4] false, 1, 8, .nilFunc, false⟩ := by kernel_rfl
theorem tt52 : tt 52 = some ⟨.func #[26, 47] #[4] false, 1, 8, .nilFunc, false⟩ := by kernel_rfl
theorem tt53 : tt 53 = some ⟨.func #[34] #[34] false, 1, 8, .nilFunc, false⟩ := by kernel_rfl
theorem tt54 : tt 54 = some ⟨.func #[25] #[25] false, 1, 8, .nilFunc, false⟩ := by kernel_rfl
theorem tt55 : tt 55 = some ⟨.func #[34, 51] #[3] false, 1, 8, .nilFunc, false⟩ := by kernel_rfl
theorem tt56 : tt 56 = some ⟨.func #[26, 47] #[3] false, 1, 8, .nilFunc, false⟩ := by kernel_rfl
theorem tt57 : tt 57 = some ⟨.func #[] #[9] false, 1, 8, .nilFunc, false⟩ := by kernel_rfl
theorem tt58 : tt 58 = some ⟨.struct (fl 58), 4, 40, .agg #[.pointer none, .pointer none, .pointer none, .string ByteArray.empty], false⟩ := by kernel_rfl
theorem zc58 : (Value.agg #[.pointer none, .pointer none, .pointer none, .string ByteArray.empty]).cells.toList = [.pointer none, .pointer none, .pointer none, .string ByteArray.empty] := by kernel_rfl
theorem fll58 : (fl 58).toList = [fd 58 0, fd 58 1, fd 58 2, fd 58 3] := by kernel_rfl
theorem fl58_0 : (fl 58)[0]? = some (fd 58 0) := by kernel_rfl
theorem fdt58_0 : (fd 58 0).type = 17 := by kernel_rfl
theorem fdo58_0 : (fd 58 0).offset = 0 := by kernel_rfl
theorem fl58_1 : (fl 58)[1]? = some (fd 58 1) := by kernel_rfl
theorem fdt58_1 : (fd 58 1).type = 17 := by kernel_rfl
theorem fdo58_1 : (fd 58 1).offset = 1 := by kernel_rfl
theorem fl58_2 : (fl 58)[2]? = some (fd 58 2) := by kernel_rfl
theorem fdt58_2 : (fd 58 2).type = 17 := by kernel_rfl
theorem fdo58_2 : (fd 58 2).offset = 2 := by kernel_rfl
theorem fl58_3 : (fl 58)[3]? = some (fd 58 3) := by kernel_rfl
theorem fdt58_3 : (fd 58 3).type = 9 := by kernel_rfl
theorem fdo58_3 : (fd 58 3).offset = 3 := by kernel_rfl
theorem tt59 : tt 59 = some ⟨.struct (fl 59), 4, 40, .agg #[.pointer none, .pointer none, .pointer none, .string ByteArray.empty], false⟩ := by kernel_rfl
theorem fll59 : (fl 59).toList = [fd 59 0, fd 59 1, fd 59 2, fd 59 3] := by kernel_rfl
theorem fl59_0 : (fl 59)[0]? = some (fd 59 0) := by kernel_rfl
theorem fdt59_0 : (fd 59 0).type = 17 := by kernel_rfl
theorem fdo59_0 : (fd 59 0).offset = 0 := by kernel_rfl
theorem fl59_1 : (fl 59)[1]? = some (fd 59 1) := by kernel_rfl
theorem fdt59_1 : (fd 59 1).type = 17 := by kernel_rfl
theorem fdo59_1 : (fd 59 1).offset = 1 := by kernel_rfl
theorem fl59_2 : (fl 59)[2]? = some (fd 59 2) := by kernel_rfl
theorem fdt59_2 : (fd 59 2).type = 17 := by kernel_rfl
theorem fdo59_2 : (fd 59 2).offset = 2 := by kernel_rfl
theorem fl59_3 : (fl 59)[3]? = some (fd 59 3) := by kernel_rfl
theorem fdt59_3 : (fd 59 3).type = 9 := by kernel_rfl
theorem fdo59_3 : (fd 59 3).offset = 3 := by kernel_rfl
theorem tt63 : tt 63 = some ⟨.func #[] #[3] false, 1, 8, .nilFunc, false⟩ := by kernel_rfl
theorem tt64 : tt 64 = some ⟨.int .u32, 1, 4, .int .u32 0, false⟩ := by kernel_rfl
theorem tt65 : tt 65 = some ⟨.int .u8, 1, 1, .int .u8 0, false⟩ := by kernel_rfl
theorem tt66 : tt 66 = some ⟨.int .u8, 1, 1, .int .u8 0, false⟩ := by kernel_rfl
theorem tt67 : tt 67 = some ⟨.func #[73, 73] #[4] false, 1, 8, .nilFunc, false⟩ := by kernel_rfl
theorem tt68 : tt 68 = some ⟨.pointer 5, 1, 8, .pointer none, false⟩ := by kernel_rfl
theorem tt69 : tt 69 = some ⟨.int .i32, 1, 4, .int .i32 0, false⟩ := by kernel_rfl
theorem tt70 : tt 70 = some ⟨.int .i32, 1, 4, .int .i32 0, false⟩ := by kernel_rfl
theorem tt71 : tt 71 = some ⟨.struct (fl 71), 11, 48, .agg #[.int .u64 0, .int .u64 0, .int .u32 0, .int .u8 0, .int .u8 0, .int .u8 0, .int .u8 0, .nilFunc, .pointer none, .int .i32 0, .int .i32 0], false⟩ := by kernel_rfl
theorem zc71 : (Value.agg #[.int .u64 0, .int .u64 0, .int .u32 0, .int .u8 0, .int .u8 0, .int .u8 0, .int .u8 0, .nilFunc, .pointer none, .int .i32 0, .int .i32 0]).cells.toList = [.int .u64 0, .int .u64 0, .int .u32 0, .int .u8 0, .int .u8 0, .int .u8 0, .int .u8 0, .nilFunc, .pointer none, .int .i32 0, .int .i32 0] := by kernel_rfl
theorem fll71 : (fl 71).toList = [fd 71 0, fd 71 1, fd 71 2, fd 71 3, fd 71 4, fd 71 5, fd 71 6, fd 71 7, fd 71 8, fd 71 9, fd 71 10] := by kernel_rfl
theorem fl71_0 : (fl 71)[0]? = some (fd 71 0) := by kernel_rfl
theorem fdt71_0 : (fd 71 0).type = 12 := by kernel_rfl
theorem fdo71_0 : (fd 71 0).offset = 0 := by kernel_rfl
theorem fl71_1 : (fl 71)[1]? = some (fd 71 1) := by kernel_rfl
theorem fdt71_1 : (fd 71 1).type = 12 := by kernel_rfl
theorem fdo71_1 : (fd 71 1).offset = 1 := by kernel_rfl
theorem fl71_2 : (fl 71)[2]? = some (fd 71 2) := by kernel_rfl
theorem fdt71_2 : (fd 71 2).type = 64 := by kernel_rfl
theorem fdo71_2 : (fd 71 2).offset = 2 := by kernel_rfl
theorem fl71_3 : (fl 71)[3]? = some (fd 71 3) := by kernel_rfl
theorem fdt71_3 : (fd 71 3).type = 65 := by kernel_rfl
theorem fdo71_3 : (fd 71 3).offset = 3 := by kernel_rfl
theorem fl71_4 : (fl 71)[4]? = some (fd 71 4) := by kernel_rfl
theorem fdt71_4 : (fd 71 4).type = 5 := by kernel_rfl
theorem fdo71_4 : (fd 71 4).offset = 4 := by kernel_rfl
theorem fl71_5 : (fl 71)[5]? = some (fd 71 5) := by kernel_rfl
theorem fdt71_5 : (fd 71 5).type = 5 := by kernel_rfl
theorem fdo71_5 : (fd 71 5).offset = 5 := by kernel_rfl
theorem fl71_6 : (fl 71)[6]? = some (fd 71 6) := by kernel_rfl
theorem fdt71_6 : (fd 71 6).type = 66 := by kernel_rfl
theorem fdo71_6 : (fd 71 6).offset = 6 := by kernel_rfl
theorem fl71_7 : (fl 71)[7]? = some (fd 71 7) := by kernel_rfl
theorem fdt71_7 : (fd 71 7).type = 67 := by kernel_rfl
theorem fdo71_7 : (fd 71 7).offset = 7 := by kernel_rfl
theorem fl71_8 : (fl 71)[8]? = some (fd 71 8) := by kernel_rfl
theorem fdt71_8 : (fd 71 8).type = 68 := by kernel_rfl
theorem fdo71_8 : (fd 71 8).offset = 8 := by kernel_rfl
theorem fl71_9 : (fl 71)[9]? = some (fd 71 9) := by kernel_rfl
theorem fdt71_9 : (fd 71 9).type = 69 := by kernel_rfl
theorem fdo71_9 : (fd 71 9).offset = 9 := by kernel_rfl
theorem fl71_10 : (fl 71)[10]? = some (fd 71 10) := by kernel_rfl
theorem fdt71_10 : (fd 71 10).type = 70 := by kernel_rfl
theorem fdo71_10 : (fd 71 10).offset = 10 := by kernel_rfl
theorem tt72 : tt 72 = some ⟨.struct (fl 72), 11, 48, .agg #[.int .u64 0, .int .u64 0, .int .u32 0, .int .u8 0, .int .u8 0, .int .u8 0, .int .u8 0, .nilFunc, .pointer none, .int .i32 0, .int .i32 0], false⟩ := by kernel_rfl
theorem fll72 : (fl 72).toList = [fd 72 0, fd 72 1, fd 72 2, fd 72 3, fd 72 4, fd 72 5, fd 72 6, fd 72 7, fd 72 8, fd 72 9, fd 72 10] := by kernel_rfl
theorem fl72_0 : (fl 72)[0]? = some (fd 72 0) := by kernel_rfl
theorem fdt72_0 : (fd 72 0).type = 12 := by kernel_rfl
theorem fdo72_0 : (fd 72 0).offset = 0 := by kernel_rfl
theorem fl72_1 : (fl 72)[1]? = some (fd 72 1) := by kernel_rfl
theorem fdt72_1 : (fd 72 1).type = 12 := by kernel_rfl
theorem fdo72_1 : (fd 72 1).offset = 1 := by kernel_rfl
theorem fl72_2 : (fl 72)[2]? = some (fd 72 2) := by kernel_rfl
theorem fdt72_2 : (fd 72 2).type = 64 := by kernel_rfl
theorem fdo72_2 : (fd 72 2).offset = 2 := by kernel_rfl
theorem fl72_3 : (fl 72)[3]? = some (fd 72 3) := by kernel_rfl
theorem fdt72_3 : (fd 72 3).type = 65 := by kernel_rfl
theorem fdo72_3 : (fd 72 3).offset = 3 := by kernel_rfl
theorem fl72_4 : (fl 72)[4]? = some (fd 72 4) := by kernel_rfl
theorem fdt72_4 : (fd 72 4).type = 5 := by kernel_rfl
theorem fdo72_4 : (fd 72 4).offset = 4 := by kernel_rfl
theorem fl72_5 : (fl 72)[5]? = some (fd 72 5) := by kernel_rfl
theorem fdt72_5 : (fd 72 5).type = 5 := by kernel_rfl
theorem fdo72_5 : (fd 72 5).offset = 5 := by kernel_rfl
theorem fl72_6 : (fl 72)[6]? = some (fd 72 6) := by kernel_rfl
theorem fdt72_6 : (fd 72 6).type = 66 := by kernel_rfl
theorem fdo72_6 : (fd 72 6).offset = 6 := by kernel_rfl
theorem fl72_7 : (fl 72)[7]? = some (fd 72 7) := by kernel_rfl
theorem fdt72_7 : (fd 72 7).type = 67 := by kernel_rfl
theorem fdo72_7 : (fd 72 7).offset = 7 := by kernel_rfl
theorem fl72_8 : (fl 72)[8]? = some (fd 72 8) := by kernel_rfl
theorem fdt72_8 : (fd 72 8).type = 68 := by kernel_rfl
theorem fdo72_8 : (fd 72 8).offset = 8 := by kernel_rfl
theorem fl72_9 : (fl 72)[9]? = some (fd 72 9) := by kernel_rfl
theorem fdt72_9 : (fd 72 9).type = 69 := by kernel_rfl
theorem fdo72_9 : (fd 72 9).offset = 9 := by kernel_rfl
theorem fl72_10 : (fl 72)[10]? = some (fd 72 10) := by kernel_rfl
theorem fdt72_10 : (fd 72 10).type = 70 := by kernel_rfl
theorem fdo72_10 : (fd 72 10).offset = 10 := by kernel_rfl
theorem fnok6 : FnOk Try.prog 6 := ⟨_, Try.func6, by kernel_rfl, by kernel_rfl⟩
theorem fnok7 : FnOk Try.prog 7 := ⟨_, Try.func7, by kernel_rfl, by kernel_rfl⟩
theorem fnok9 : FnOk Try.prog 9 := ⟨_, Try.func9, by kernel_rfl, by kernel_rfl⟩
theorem fnok11 : FnOk Try.prog 11 := ⟨_, Try.func11, by kernel_rfl, by kernel_rfl⟩
theorem fnok12 : FnOk Try.prog 12 := ⟨_, Try.func12, by kernel_rfl, by kernel_rfl⟩
theorem fnok13 : FnOk Try.prog 13 := ⟨_, Try.func13, by kernel_rfl, by kernel_rfl⟩
theorem fnok14 : FnOk Try.prog 14 := ⟨_, Try.func14, by kernel_rfl, by kernel_rfl⟩
theorem fnok15 : FnOk Try.prog 15 := ⟨_, Try.func15, by kernel_rfl, by kernel_rfl⟩
theorem fnok16 : FnOk Try.prog 16 := ⟨_, Try.func16, by kernel_rfl, by kernel_rfl⟩
theorem fnok18 : FnOk Try.prog 18 := ⟨_, Try.func18, by kernel_rfl, by kernel_rfl⟩
theorem fnok19 : FnOk Try.prog 19 := ⟨_, Try.func19, by kernel_rfl, by kernel_rfl⟩
theorem fnok20 : FnOk Try.prog 20 := ⟨_, Try.func20, by kernel_rfl, by kernel_rfl⟩
theorem fnok21 : FnOk Try.prog 21 := ⟨_, Try.func21, by kernel_rfl, by kernel_rfl⟩
theorem fnok22 : FnOk Try.prog 22 := ⟨_, Try.func22, by kernel_rfl, by kernel_rfl⟩
theorem fnok23 : FnOk Try.prog 23 := ⟨_, Try.func23, by kernel_rfl, by kernel_rfl⟩
theorem fnok24 : FnOk Try.prog 24 := ⟨_, Try.func24, by kernel_rfl, by kernel_rfl⟩
theorem fnok25 : FnOk Try.prog 25 := ⟨_, Try.func25, by kernel_rfl, by kernel_rfl⟩
theorem fnok26 : FnOk Try.prog 26 := ⟨_, Try.func26, by kernel_rfl, by kernel_rfl⟩
theorem fnok27 : FnOk Try.prog 27 := ⟨_, Try.func27, by kernel_rfl, by kernel_rfl⟩
theorem fnok28 : FnOk Try.prog 28 := ⟨_, Try.func28, by kernel_rfl, by kernel_rfl⟩
theorem fnok29 : FnOk Try.prog 29 := ⟨_, Try.func29, by kernel_rfl, by kernel_rfl⟩
theorem fnok30 : FnOk Try.prog 30 := ⟨_, Try.func30, by kernel_rfl, by kernel_rfl⟩
theorem fnok31 : FnOk Try.prog 31 := ⟨_, Try.func31, by kernel_rfl, by kernel_rfl⟩
theorem fnok32 : FnOk Try.prog 32 := ⟨_, Try.func32, by kernel_rfl, by kernel_rfl⟩
theorem tyA0 : (tt 1 = some ⟨.func #[] #[] false, 1, 8, .nilFunc, false⟩) ∧ (tt 2 = some ⟨.int .i64, 1, 8, .int .i64 0, false⟩) ∧ (tt 3 = some ⟨.int .i64, 1, 8, .int .i64 0, false⟩) ∧ (tt 4 = some ⟨.bool, 1, 1, .bool false, false⟩) ∧ (tt 5 = some ⟨.int .u8, 1, 1, .int .u8 0, false⟩) ∧ (tt 6 = some ⟨.int .u8, 1, 1, .int .u8 0, false⟩) ∧ (tt 7 = some ⟨.struct (fl 7), 4, 24, .agg #[.int .i64 0, .int .i64 0, .bool false, .int .u8 0], false⟩) ∧ ((Value.agg #[.int .i64 0, .int .i64 0, .bool false, .int .u8 0]).cells.toList = [.int .i64 0, .int .i64 0, .bool false, .int .u8 0]) ∧ ((fl 7).toList = [fd 7 0, fd 7 1, fd 7 2, fd 7 3]) ∧ ((fl 7)[0]? = some (fd 7 0)) ∧ ((fd 7 0).type = 2) ∧ ((fd 7 0).offset = 0) ∧ ((fl 7)[1]? = some (fd 7 1)) ∧ ((fd 7 1).type = 3) ∧ ((fd 7 1).offset = 1) ∧ ((fl 7)[2]? = some (fd 7 2)) ∧ ((fd 7 2).type = 4) ∧ ((fd 7 2).offset = 2) ∧ ((fl 7)[3]? = some (fd 7 3)) ∧ ((fd 7 3).type = 6) ∧ ((fd 7 3).offset = 3) ∧ (tt 8 = some ⟨.struct (fl 8), 4, 24, .agg #[.int .i64 0, .int .i64 0, .bool false, .int .u8 0], false⟩) ∧ ((fl 8).toList = [fd 8 0, fd 8 1, fd 8 2, fd 8 3]) ∧ ((fl 8)[0]? = some (fd 8 0)) ∧ ((fd 8 0).type = 2) ∧ ((fd 8 0).offset = 0) ∧ ((fl 8)[1]? = some (fd 8 1)) ∧ ((fd 8 1).type = 3) ∧ ((fd 8 1).offset = 1) ∧ ((fl 8)[2]? = some (fd 8 2)) ∧ ((fd 8 2).type = 4) ∧ ((fd 8 2).offset = 2) ∧ ((fl 8)[3]? = some (fd 8 3)) ∧ ((fd 8 3).type = 6) ∧ ((fd 8 3).offset = 3) ∧ (tt 9 = some ⟨.string, 1, 16, .string ByteArray.empty, false⟩) ∧ (tt 10 = some ⟨.string, 1, 16, .string ByteArray.empty, false⟩) ∧ (tt 11 = some ⟨.string, 1, 16, .string ByteArray.empty, false⟩) ∧ (tt 12 = some ⟨.int .u64, 1, 8, .int .u64 0, false⟩) ∧ (tt 13 = some ⟨.struct (fl 13), 2, 24, .agg #[.string ByteArray.empty, .int .u64 0], false⟩) := ⟨tt1, tt2, tt3, tt4, tt5, tt6, tt7, zc7, fll7, fl7_0, fdt7_0, fdo7_0, fl7_1, fdt7_1, fdo7_1, fl7_2, fdt7_2, fdo7_2, fl7_3, fdt7_3, fdo7_3, tt8, fll8, fl8_0, fdt8_0, fdo8_0, fl8_1, fdt8_1, fdo8_1, fl8_2, fdt8_2, fdo8_2, fl8_3, fdt8_3, fdo8_3, tt9, tt10, tt11, tt12, tt13⟩
theorem tyA1 : ((Value.agg #[.string ByteArray.empty, .int .u64 0]).cells.toList = [.string ByteArray.empty, .int .u64 0]) ∧ ((fl 13).toList = [fd 13 0, fd 13 1]) ∧ ((fl 13)[0]? = some (fd 13 0)) ∧ ((fd 13 0).type = 9) ∧ ((fd 13 0).offset = 0) ∧ ((fl 13)[1]? = some (fd 13 1)) ∧ ((fd 13 1).type = 12) ∧ ((fd 13 1).offset = 1) ∧ (tt 14 = some ⟨.struct (fl 14), 2, 24, .agg #[.string ByteArray.empty, .int .u64 0], false⟩) ∧ ((fl 14).toList = [fd 14 0, fd 14 1]) ∧ ((fl 14)[0]? = some (fd 14 0)) ∧ ((fd 14 0).type = 9) ∧ ((fd 14 0).offset = 0) ∧ ((fl 14)[1]? = some (fd 14 1)) ∧ ((fd 14 1).type = 12) ∧ ((fd 14 1).offset = 1) ∧ (tt 15 = some ⟨.pointer 59, 1, 8, .pointer none, false⟩) ∧ (tt 16 = some ⟨.pointer 62, 1, 8, .pointer none, false⟩) ∧ (tt 17 = some ⟨.pointer 72, 1, 8, .pointer none, false⟩) ∧ (tt 18 = some ⟨.struct (fl 18), 1, 8, .agg #[.pointer none], false⟩) ∧ ((Value.agg #[.pointer none]).cells.toList = [.pointer none]) ∧ ((fl 18).toList = [fd 18 0]) ∧ ((fl 18)[0]? = some (fd 18 0)) ∧ ((fd 18 0).type = 17) ∧ ((fd 18 0).offset = 0) ∧ (tt 19 = some ⟨.struct (fl 19), 1, 8, .agg #[.pointer none], false⟩) ∧ ((fl 19).toList = [fd 19 0]) ∧ ((fl 19)[0]? = some (fd 19 0)) ∧ ((fd 19 0).type = 17) ∧ ((fd 19 0).offset = 0) ∧ (tt 21 = some ⟨.int .i32, 1, 4, .int .i32 0, false⟩) ∧ (tt 22 = some ⟨.slice 23, 1, 24, .slice none 0 0, false⟩) ∧ (tt 23 = some ⟨.array 3 3, 3, 24, .agg #[.int .i64 0, .int .i64 0, .int .i64 0], false⟩) ∧ ((Value.agg #[.int .i64 0, .int .i64 0, .int .i64 0]).cells.toList = [.int .i64 0, .int .i64 0, .int .i64 0]) ∧ (tt 24 = some ⟨.func #[] #[4] false, 1, 8, .nilFunc, false⟩) ∧ (tt 25 = some ⟨.slice 4, 1, 24, .slice none 0 0, false⟩) ∧ (tt 26 = some ⟨.slice 34, 1, 24, .slice none 0 0, false⟩) ∧ (tt 27 = some ⟨.struct (fl 27), 4, 64, .agg #[.int .i64 0, .int .i64 0, .slice none 0 0, .slice none 0 0], false⟩) ∧ ((Value.agg #[.int .i64 0, .int .i64 0, .slice none 0 0, .slice none 0 0]).cells.toList = [.int .i64 0, .int .i64 0, .slice none 0 0, .slice none 0 0]) ∧ ((fl 27).toList = [fd 27 0, fd 27 1, fd 27 2, fd 27 3]) := ⟨zc13, fll13, fl13_0, fdt13_0, fdo13_0, fl13_1, fdt13_1, fdo13_1, tt14, fll14, fl14_0, fdt14_0, fdo14_0, fl14_1, fdt14_1, fdo14_1, tt15, tt16, tt17, tt18, zc18, fll18, fl18_0, fdt18_0, fdo18_0, tt19, fll19, fl19_0, fdt19_0, fdo19_0, tt21, tt22, tt23, zc23, tt24, tt25, tt26, tt27, zc27, fll27⟩
theorem tyA2 : ((fl 27)[0]? = some (fd 27 0)) ∧ ((fd 27 0).type = 3) ∧ ((fd 27 0).offset = 0) ∧ ((fl 27)[1]? = some (fd 27 1)) ∧ ((fd 27 1).type = 3) ∧ ((fd 27 1).offset = 1) ∧ ((fl 27)[2]? = some (fd 27 2)) ∧ ((fd 27 2).type = 25) ∧ ((fd 27 2).offset = 2) ∧ ((fl 27)[3]? = some (fd 27 3)) ∧ ((fd 27 3).type = 26) ∧ ((fd 27 3).offset = 3) ∧ (tt 28 = some ⟨.struct (fl 28), 4, 64, .agg #[.int .i64 0, .int .i64 0, .slice none 0 0, .slice none 0 0], false⟩) ∧ ((fl 28).toList = [fd 28 0, fd 28 1, fd 28 2, fd 28 3]) ∧ ((fl 28)[0]? = some (fd 28 0)) ∧ ((fd 28 0).type = 3) ∧ ((fd 28 0).offset = 0) ∧ ((fl 28)[1]? = some (fd 28 1)) ∧ ((fd 28 1).type = 3) ∧ ((fd 28 1).offset = 1) ∧ ((fl 28)[2]? = some (fd 28 2)) ∧ ((fd 28 2).type = 25) ∧ ((fd 28 2).offset = 2) ∧ ((fl 28)[3]? = some (fd 28 3)) ∧ ((fd 28 3).type = 26) ∧ ((fd 28 3).offset = 3) ∧ (tt 29 = some ⟨.func #[22, 3, 30] #[28] false, 1, 8, .nilFunc, false⟩) ∧ (tt 30 = some ⟨.array 2 3, 2, 16, .agg #[.int .i64 0, .int .i64 0], false⟩) ∧ ((Value.agg #[.int .i64 0, .int .i64 0]).cells.toList = [.int .i64 0, .int .i64 0]) ∧ (tt 31 = some ⟨.int .u64, 1, 8, .int .u64 0, false⟩) ∧ (tt 32 = some ⟨.func #[3, 3] #[26] false, 1, 8, .nilFunc, false⟩) ∧ (tt 33 = some ⟨.func #[28, 3, 34] #[4] false, 1, 8, .nilFunc, false⟩) ∧ (tt 34 = some ⟨.slice 3, 1, 24, .slice none 0 0, false⟩) ∧ (tt 35 = some ⟨.func #[34, 34] #[4] false, 1, 8, .nilFunc, false⟩) ∧ (tt 36 = some ⟨.func #[47] #[] false, 1, 8, .nilFunc, false⟩) ∧ (tt 37 = some ⟨.func #[47] #[] false, 1, 8, .nilFunc, false⟩) ∧ (tt 38 = some ⟨.func #[28, 3] #[37] false, 1, 8, .nilFunc, false⟩) ∧ (tt 39 = some ⟨.func #[28, 3, 3] #[26] false, 1, 8, .nilFunc, false⟩) ∧ (tt 40 = some ⟨.func #[22, 3, 23] #[4] false, 1, 8, .nilFunc, false⟩) ∧ (tt 42 = some ⟨.func #[28, 3] #[34, 4] false, 1, 8, .nilFunc, false⟩) := ⟨fl27_0, fdt27_0, fdo27_0, fl27_1, fdt27_1, fdo27_1, fl27_2, fdt27_2, fdo27_2, fl27_3, fdt27_3, fdo27_3, tt28, fll28, fl28_0, fdt28_0, fdo28_0, fl28_1, fdt28_1, fdo28_1, fl28_2, fdt28_2, fdo28_2, fl28_3, fdt28_3, fdo28_3, tt29, tt30, zc30, tt31, tt32, tt33, tt34, tt35, tt36, tt37, tt38, tt39, tt40, tt42⟩
theorem tyA3 : (tt 43 = some ⟨.func #[28] #[25] false, 1, 8, .nilFunc, false⟩) ∧ (tt 44 = some ⟨.func #[28, 34] #[34, 4] false, 1, 8, .nilFunc, false⟩) ∧ (tt 45 = some ⟨.func #[22, 30, 34] #[4] false, 1, 8, .nilFunc, false⟩) ∧ (tt 46 = some ⟨.func #[28, 3, 34] #[3] false, 1, 8, .nilFunc, false⟩) ∧ (tt 47 = some ⟨.func #[34] #[4] false, 1, 8, .nilFunc, false⟩) ∧ (tt 48 = some ⟨.func #[28] #[4] false, 1, 8, .nilFunc, false⟩) ∧ (tt 49 = some ⟨.func #[28, 25, 3, 3, 34, 47] #[4] false, 1, 8, .nilFunc, false⟩) ∧ (tt 50 = some ⟨.func #[34, 51] #[4] false, 1, 8, .nilFunc, false⟩) ∧ (tt 51 = some ⟨.func #[3] #[4] false, 1, 8, .nilFunc, false⟩) ∧ (tt 52 = some ⟨.func #[26, 47] #[4] false, 1, 8, .nilFunc, false⟩) ∧ (tt 53 = some ⟨.func #[34] #[34] false, 1, 8, .nilFunc, false⟩) ∧ (tt 54 = some ⟨.func #[25] #[25] false, 1, 8, .nilFunc, false⟩) ∧ (tt 55 = some ⟨.func #[34, 51] #[3] false, 1, 8, .nilFunc, false⟩) ∧ (tt 56 = some ⟨.func #[26, 47] #[3] false, 1, 8, .nilFunc, false⟩) ∧ (tt 57 = some ⟨.func #[] #[9] false, 1, 8, .nilFunc, false⟩) ∧ (tt 58 = some ⟨.struct (fl 58), 4, 40, .agg #[.pointer none, .pointer none, .pointer none, .string ByteArray.empty], false⟩) ∧ ((Value.agg #[.pointer none, .pointer none, .pointer none, .string ByteArray.empty]).cells.toList = [.pointer none, .pointer none, .pointer none, .string ByteArray.empty]) ∧ ((fl 58).toList = [fd 58 0, fd 58 1, fd 58 2, fd 58 3]) ∧ ((fl 58)[0]? = some (fd 58 0)) ∧ ((fd 58 0).type = 17) ∧ ((fd 58 0).offset = 0) ∧ ((fl 58)[1]? = some (fd 58 1)) ∧ ((fd 58 1).type = 17) ∧ ((fd 58 1).offset = 1) ∧ ((fl 58)[2]? = some (fd 58 2)) ∧ ((fd 58 2).type = 17) ∧ ((fd 58 2).offset = 2) ∧ ((fl 58)[3]? = some (fd 58 3)) ∧ ((fd 58 3).type = 9) ∧ ((fd 58 3).offset = 3) ∧ (tt 59 = some ⟨.struct (fl 59), 4, 40, .agg #[.pointer none, .pointer none, .pointer none, .string ByteArray.empty], false⟩) ∧ ((fl 59).toList = [fd 59 0, fd 59 1, fd 59 2, fd 59 3]) ∧ ((fl 59)[0]? = some (fd 59 0)) ∧ ((fd 59 0).type = 17) ∧ ((fd 59 0).offset = 0) ∧ ((fl 59)[1]? = some (fd 59 1)) ∧ ((fd 59 1).type = 17) ∧ ((fd 59 1).offset = 1) ∧ ((fl 59)[2]? = some (fd 59 2)) ∧ ((fd 59 2).type = 17) := ⟨tt43, tt44, tt45, tt46, tt47, tt48, tt49, tt50, tt51, tt52, tt53, tt54, tt55, tt56, tt57, tt58, zc58, fll58, fl58_0, fdt58_0, fdo58_0, fl58_1, fdt58_1, fdo58_1, fl58_2, fdt58_2, fdo58_2, fl58_3, fdt58_3, fdo58_3, tt59, fll59, fl59_0, fdt59_0, fdo59_0, fl59_1, fdt59_1, fdo59_1, fl59_2, fdt59_2⟩
theorem tyA4 : ((fd 59 2).offset = 2) ∧ ((fl 59)[3]? = some (fd 59 3)) ∧ ((fd 59 3).type = 9) ∧ ((fd 59 3).offset = 3) ∧ (tt 63 = some ⟨.func #[] #[3] false, 1, 8, .nilFunc, false⟩) ∧ (tt 64 = some ⟨.int .u32, 1, 4, .int .u32 0, false⟩) ∧ (tt 65 = some ⟨.int .u8, 1, 1, .int .u8 0, false⟩) ∧ (tt 66 = some ⟨.int .u8, 1, 1, .int .u8 0, false⟩) ∧ (tt 67 = some ⟨.func #[73, 73] #[4] false, 1, 8, .nilFunc, false⟩) ∧ (tt 68 = some ⟨.pointer 5, 1, 8, .pointer none, false⟩) ∧ (tt 69 = some ⟨.int .i32, 1, 4, .int .i32 0, false⟩) ∧ (tt 70 = some ⟨.int .i32, 1, 4, .int .i32 0, false⟩) ∧ (tt 71 = some ⟨.struct (fl 71), 11, 48, .agg #[.int .u64 0, .int .u64 0, .int .u32 0, .int .u8 0, .int .u8 0, .int .u8 0, .int .u8 0, .nilFunc, .pointer none, .int .i32 0, .int .i32 0], false⟩) ∧ ((Value.agg #[.int .u64 0, .int .u64 0, .int .u32 0, .int .u8 0, .int .u8 0, .int .u8 0, .int .u8 0, .nilFunc, .pointer none, .int .i32 0, .int .i32 0]).cells.toList = [.int .u64 0, .int .u64 0, .int .u32 0, .int .u8 0, .int .u8 0, .int .u8 0, .int .u8 0, .nilFunc, .pointer none, .int .i32 0, .int .i32 0]) ∧ ((fl 71).toList = [fd 71 0, fd 71 1, fd 71 2, fd 71 3, fd 71 4, fd 71 5, fd 71 6, fd 71 7, fd 71 8, fd 71 9, fd 71 10]) ∧ ((fl 71)[0]? = some (fd 71 0)) ∧ ((fd 71 0).type = 12) ∧ ((fd 71 0).offset = 0) ∧ ((fl 71)[1]? = some (fd 71 1)) ∧ ((fd 71 1).type = 12) ∧ ((fd 71 1).offset = 1) ∧ ((fl 71)[2]? = some (fd 71 2)) ∧ ((fd 71 2).type = 64) ∧ ((fd 71 2).offset = 2) ∧ ((fl 71)[3]? = some (fd 71 3)) ∧ ((fd 71 3).type = 65) ∧ ((fd 71 3).offset = 3) ∧ ((fl 71)[4]? = some (fd 71 4)) ∧ ((fd 71 4).type = 5) ∧ ((fd 71 4).offset = 4) ∧ ((fl 71)[5]? = some (fd 71 5)) ∧ ((fd 71 5).type = 5) ∧ ((fd 71 5).offset = 5) ∧ ((fl 71)[6]? = some (fd 71 6)) ∧ ((fd 71 6).type = 66) ∧ ((fd 71 6).offset = 6) ∧ ((fl 71)[7]? = some (fd 71 7)) ∧ ((fd 71 7).type = 67) ∧ ((fd 71 7).offset = 7) ∧ ((fl 71)[8]? = some (fd 71 8)) := ⟨fdo59_2, fl59_3, fdt59_3, fdo59_3, tt63, tt64, tt65, tt66, tt67, tt68, tt69, tt70, tt71, zc71, fll71, fl71_0, fdt71_0, fdo71_0, fl71_1, fdt71_1, fdo71_1, fl71_2, fdt71_2, fdo71_2, fl71_3, fdt71_3, fdo71_3, fl71_4, fdt71_4, fdo71_4, fl71_5, fdt71_5, fdo71_5, fl71_6, fdt71_6, fdo71_6, fl71_7, fdt71_7, fdo71_7, fl71_8⟩
theorem tyA5 : ((fd 71 8).type = 68) ∧ ((fd 71 8).offset = 8) ∧ ((fl 71)[9]? = some (fd 71 9)) ∧ ((fd 71 9).type = 69) ∧ ((fd 71 9).offset = 9) ∧ ((fl 71)[10]? = some (fd 71 10)) ∧ ((fd 71 10).type = 70) ∧ ((fd 71 10).offset = 10) ∧ (tt 72 = some ⟨.struct (fl 72), 11, 48, .agg #[.int .u64 0, .int .u64 0, .int .u32 0, .int .u8 0, .int .u8 0, .int .u8 0, .int .u8 0, .nilFunc, .pointer none, .int .i32 0, .int .i32 0], false⟩) ∧ ((fl 72).toList = [fd 72 0, fd 72 1, fd 72 2, fd 72 3, fd 72 4, fd 72 5, fd 72 6, fd 72 7, fd 72 8, fd 72 9, fd 72 10]) ∧ ((fl 72)[0]? = some (fd 72 0)) ∧ ((fd 72 0).type = 12) ∧ ((fd 72 0).offset = 0) ∧ ((fl 72)[1]? = some (fd 72 1)) ∧ ((fd 72 1).type = 12) ∧ ((fd 72 1).offset = 1) ∧ ((fl 72)[2]? = some (fd 72 2)) ∧ ((fd 72 2).type = 64) ∧ ((fd 72 2).offset = 2) ∧ ((fl 72)[3]? = some (fd 72 3)) ∧ ((fd 72 3).type = 65) ∧ ((fd 72 3).offset = 3) ∧ ((fl 72)[4]? = some (fd 72 4)) ∧ ((fd 72 4).type = 5) ∧ ((fd 72 4).offset = 4) ∧ ((fl 72)[5]? = some (fd 72 5)) ∧ ((fd 72 5).type = 5) ∧ ((fd 72 5).offset = 5) ∧ ((fl 72)[6]? = some (fd 72 6)) ∧ ((fd 72 6).type = 66) ∧ ((fd 72 6).offset = 6) ∧ ((fl 72)[7]? = some (fd 72 7)) ∧ ((fd 72 7).type = 67) ∧ ((fd 72 7).offset = 7) ∧ ((fl 72)[8]? = some (fd 72 8)) ∧ ((fd 72 8).type = 68) ∧ ((fd 72 8).offset = 8) ∧ ((fl 72)[9]? = some (fd 72 9)) ∧ ((fd 72 9).type = 69) ∧ ((fd 72 9).offset = 9) := ⟨fdt71_8, fdo71_8, fl71_9, fdt71_9, fdo71_9, fl71_10, fdt71_10, fdo71_10, tt72, fll72, fl72_0, fdt72_0, fdo72_0, fl72_1, fdt72_1, fdo72_1, fl72_2, fdt72_2, fdo72_2, fl72_3, fdt72_3, fdo72_3, fl72_4, fdt72_4, fdo72_4, fl72_5, fdt72_5, fdo72_5, fl72_6, fdt72_6, fdo72_6, fl72_7, fdt72_7, fdo72_7, fl72_8, fdt72_8, fdo72_8, fl72_9, fdt72_9, fdo72_9⟩
theorem tyA6 : ((fl 72)[10]? = some (fd 72 10)) ∧ ((fd 72 10).type = 70) ∧ ((fd 72 10).offset = 10) := ⟨fl72_10, fdt72_10, fdo72_10⟩
theorem tyA : type_of% (And.intro tyA0 (And.intro tyA1 (And.intro tyA2 (And.intro tyA3 (And.intro tyA4 (And.intro tyA5 (tyA6))))))) := And.intro tyA0 (And.intro tyA1 (And.intro tyA2 (And.intro tyA3 (And.intro tyA4 (And.intro tyA5 (tyA6))))))
attribute [irreducible] tt fl fd
end Go.Proofs.Ytglcnghfmdcdpaa
