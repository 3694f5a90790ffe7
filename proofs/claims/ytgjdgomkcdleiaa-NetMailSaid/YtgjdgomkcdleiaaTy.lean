import Derived.Test.YtgjdgomkcdleiaaChecked
import Derived.Test.YtgjdgomkcdleiaaAbD
import Derived.KernelRfl
namespace Go.Proofs.Ytgjdgomkcdleiaa
open Go.Ab
set_option linter.unusedSimpArgs false
noncomputable def tt : TypeId → Option TI := ttOf Try.prog
theorem ttok : TTok Try.prog tt := ttOf_ok _
noncomputable def fl (T : TypeId) : Array Field := flOf Try.prog T
noncomputable def fd (T : TypeId) (k : Nat) : Field := (fl T).getD k default
theorem tt1 : tt 1 = some ⟨.func #[] #[] false, 1, 8, .nilFunc, false⟩ := by kernel_rfl
theorem tt2 : tt 2 = some ⟨.int .i64, 1, 8, .int .i64 0, false⟩ := by kernel_rfl
theorem tt3 : tt 3 = some ⟨.int .i64, 1, 8, .int .i64 0, false⟩ := by kernel_rfl
theorem tt4 : tt 4 = some ⟨.bool, 1, 1, .bool false, false⟩ := by kernel_rfl
theorem tt5 : tt 5 = some ⟨.int .u8, 1, 1, .int .u8 0, false⟩ := by kernel_rfl
theorem tt6 : tt 6 = some ⟨.int .u8, 1, 1, .int .u8 0, false⟩ := by kernel_rfl
theorem tt7 : tt 7 = some ⟨.struct (fl 7), 4, 24, .agg #[.int .i64 0, .int .i64 0, .bool false, .int .u8 0], false⟩ := by kernel_rfl
theorem zc7 : (Value.agg #[.int .i64 0, .int .i64 0, .bool false, .int .u8 0]).cells.toList = [.int .i64 0, .int .i64 0, .bool false, .int .u8 0] := by kernel_rfl
theorem fll7 : (fl 7).toList = [fd 7 0, fd 7 1, fd 7 2, fd 7 3] := by kernel_rfl
theorem fl7_0 : (fl 7)[0]? = some (fd 7 0) := by kernel_rfl
theorem fdt7_0 : (fd 7 0).type = 2 := by kernel_rfl
theorem fdo7_0 : (fd 7 0).offset = 0 := by kernel_rfl
theorem fl7_1 : (fl 7)[1]? = some (fd 7 1) := by kernel_rfl
theorem fdt7_1 : (fd 7 1).type = 3 := by kernel_rfl
theorem fdo7_1 : (fd 7 1).offset = 1 := by kernel_rfl
theorem fl7_2 : (fl 7)[2]? = some (fd 7 2) := by kernel_rfl
theorem fdt7_2 : (fd 7 2).type = 4 := by kernel_rfl
theorem fdo7_2 : (fd 7 2).offset = 2 := by kernel_rfl
theorem fl7_3 : (fl 7)[3]? = some (fd 7 3) := by kernel_rfl
theorem fdt7_3 : (fd 7 3).type = 6 := by kernel_rfl
theorem fdo7_3 : (fd 7 3).offset = 3 := by kernel_rfl
theorem tt8 : tt 8 = some ⟨.struct (fl 8), 4, 24, .agg #[.int .i64 0, .int .i64 0, .bool false, .int .u8 0], false⟩ := by kernel_rfl
theorem fll8 : (fl 8).toList = [fd 8 0, fd 8 1, fd 8 2, fd 8 3] := by kernel_rfl
theorem fl8_0 : (fl 8)[0]? = some (fd 8 0) := by kernel_rfl
theorem fdt8_0 : (fd 8 0).type = 2 := by kernel_rfl
theorem fdo8_0 : (fd 8 0).offset = 0 := by kernel_rfl
theorem fl8_1 : (fl 8)[1]? = some (fd 8 1) := by kernel_rfl
theorem fdt8_1 : (fd 8 1).type = 3 := by kernel_rfl
theorem fdo8_1 : (fd 8 1).offset = 1 := by kernel_rfl
theorem fl8_2 : (fl 8)[2]? = some (fd 8 2) := by kernel_rfl
theorem fdt8_2 : (fd 8 2).type = 4 := by kernel_rfl
theorem fdo8_2 : (fd 8 2).offset = 2 := by kernel_rfl
theorem fl8_3 : (fl 8)[3]? = some (fd 8 3) := by kernel_rfl
theorem fdt8_3 : (fd 8 3).type = 6 := by kernel_rfl
theorem fdo8_3 : (fd 8 3).offset = 3 := by kernel_rfl
theorem tt9 : tt 9 = some ⟨.string, 1, 16, .string ByteArray.empty, false⟩ := by kernel_rfl
theorem tt10 : tt 10 = some ⟨.string, 1, 16, .string ByteArray.empty, false⟩ := by kernel_rfl
theorem tt11 : tt 11 = some ⟨.string, 1, 16, .string ByteArray.empty, false⟩ := by kernel_rfl
theorem tt12 : tt 12 = some ⟨.int .u64, 1, 8, .int .u64 0, false⟩ := by kernel_rfl
theorem tt13 : tt 13 = some ⟨.struct (fl 13), 2, 24, .agg #[.string ByteArray.empty, .int .u64 0], false⟩ := by kernel_rfl
theorem zc13 : (Value.agg #[.string ByteArray.empty, .int .u64 0]).cells.toList = [.string ByteArray.empty, .int .u64 0] := by kernel_rfl
theorem fll13 : (fl 13).toList = [fd 13 0, fd 13 1] := by kernel_rfl
theorem fl13_0 : (fl 13)[0]? = some (fd 13 0) := by kernel_rfl
theorem fdt13_0 : (fd 13 0).type = 9 := by kernel_rfl
theorem fdo13_0 : (fd 13 0).offset = 0 := by kernel_rfl
theorem fl13_1 : (fl 13)[1]? = some (fd 13 1) := by kernel_rfl
theorem fdt13_1 : (fd 13 1).type = 12 := by kernel_rfl
theorem fdo13_1 : (fd 13 1).offset = 1 := by kernel_rfl
theorem tt14 : tt 14 = some ⟨.struct (fl 14), 2, 24, .agg #[.string ByteArray.empty, .int .u64 0], false⟩ := by kernel_rfl
theorem fll14 : (fl 14).toList = [fd 14 0, fd 14 1] := by kernel_rfl
theorem fl14_0 : (fl 14)[0]? = some (fd 14 0) := by kernel_rfl
theorem fdt14_0 : (fd 14 0).type = 9 := by kernel_rfl
theorem fdo14_0 : (fd 14 0).offset = 0 := by kernel_rfl
theorem fl14_1 : (fl 14)[1]? = some (fd 14 1) := by kernel_rfl
theorem fdt14_1 : (fd 14 1).type = 12 := by kernel_rfl
theorem fdo14_1 : (fd 14 1).offset = 1 := by kernel_rfl
theorem tt15 : tt 15 = some ⟨.pointer 54, 1, 8, .pointer none, false⟩ := by kernel_rfl
theorem tt16 : tt 16 = some ⟨.pointer 57, 1, 8, .pointer none, false⟩ := by kernel_rfl
theorem tt17 : tt 17 = some ⟨.pointer 66, 1, 8, .pointer none, false⟩ := by kernel_rfl
theorem tt18 : tt 18 = some ⟨.struct (fl 18), 1, 8, .agg #[.pointer none], false⟩ := by kernel_rfl
theorem zc18 : (Value.agg #[.pointer none]).cells.toList = [.pointer none] := by kernel_rfl
theorem fll18 : (fl 18).toList = [fd 18 0] := by kernel_rfl
theorem fl18_0 : (fl 18)[0]? = some (fd 18 0) := by kernel_rfl
theorem fdt18_0 : (fd 18 0).type = 17 := by kernel_rfl
theorem fdo18_0 : (fd 18 0).offset = 0 := by kernel_rfl
theorem tt19 : tt 19 = some ⟨.struct (fl 19), 1, 8, .agg #[.pointer none], false⟩ := by kernel_rfl
theorem fll19 : (fl 19).toList = [fd 19 0] := by kernel_rfl
theorem fl19_0 : (fl 19)[0]? = some (fd 19 0) := by kernel_rfl
theorem fdt19_0 : (fd 19 0).type = 17 := by kernel_rfl
theorem fdo19_0 : (fd 19 0).offset = 0 := by kernel_rfl
theorem tt21 : tt 21 = some ⟨.int .i32, 1, 4, .int .i32 0, false⟩ := by kernel_rfl
theorem tt22 : tt 22 = some ⟨.slice 29, 1, 24, .slice none 0 0, false⟩ := by kernel_rfl
theorem tt23 : tt 23 = some ⟨.slice 3, 1, 24, .slice none 0 0, false⟩ := by kernel_rfl
theorem tt24 : tt 24 = some ⟨.slice 27, 1, 24, .slice none 0 0, false⟩ := by kernel_rfl
theorem tt25 : tt 25 = some ⟨.slice 32, 1, 24, .slice none 0 0, false⟩ := by kernel_rfl
theorem tt26 : tt 26 = some ⟨.struct (fl 26), 4, 64, .agg #[.int .i64 0, .int .i64 0, .slice none 0 0, .slice none 0 0], false⟩ := by kernel_rfl
theorem zc26 : (Value.agg #[.int .i64 0, .int .i64 0, .slice none 0 0, .slice none 0 0]).cells.toList = [.int .i64 0, .int .i64 0, .slice none 0 0, .slice none 0 0] := by kernel_rfl
theorem fll26 : (fl 26).toList = [fd 26 0, fd 26 1, fd 26 2, fd 26 3] := by kernel_rfl
theorem fl26_0 : (fl 26)[0]? = some (fd 26 0) := by kernel_rfl
theorem fdt26_0 : (fd 26 0).type = 3 := by kernel_rfl
theorem fdo26_0 : (fd 26 0).offset = 0 := by kernel_rfl
theorem fl26_1 : (fl 26)[1]? = some (fd 26 1) := by kernel_rfl
theorem fdt26_1 : (fd 26 1).type = 3 := by kernel_rfl
theorem fdo26_1 : (fd 26 1).offset = 1 := by kernel_rfl
theorem fl26_2 : (fl 26)[2]? = some (fd 26 2) := by kernel_rfl
theorem fdt26_2 : (fd 26 2).type = 25 := by kernel_rfl
theorem fdo26_2 : (fd 26 2).offset = 2 := by kernel_rfl
theorem fl26_3 : (fl 26)[3]? = some (fd 26 3) := by kernel_rfl
theorem fdt26_3 : (fd 26 3).type = 23 := by kernel_rfl
theorem fdo26_3 : (fd 26 3).offset = 3 := by kernel_rfl
theorem tt27 : tt 27 = some ⟨.struct (fl 27), 4, 64, .agg #[.int .i64 0, .int .i64 0, .slice none 0 0, .slice none 0 0], false⟩ := by kernel_rfl
theorem fll27 : (fl 27).toList = [fd 27 0, fd 27 1, fd 27 2, fd 27 3] := by kernel_rfl
theorem fl27_0 : (fl 27)[0]? = some (fd 27 0) := by kernel_rfl
theorem fdt27_0 : (fd 27 0).type = 3 := by kernel_rfl
theorem fdo27_0 : (fd 27 0).offset = 0 := by kernel_rfl
theorem fl27_1 : (fl 27)[1]? = some (fd 27 1) := by kernel_rfl
theorem fdt27_1 : (fd 27 1).type = 3 := by kernel_rfl
theorem fdo27_1 : (fd 27 1).offset = 1 := by kernel_rfl
theorem fl27_2 : (fl 27)[2]? = some (fd 27 2) := by kernel_rfl
theorem fdt27_2 : (fd 27 2).type = 25 := by kernel_rfl
theorem fdo27_2 : (fd 27 2).offset = 2 := by kernel_rfl
theorem fl27_3 : (fl 27)[3]? = some (fd 27 3) := by kernel_rfl
theorem fdt27_3 : (fd 27 3).type = 23 := by kernel_rfl
theorem fdo27_3 : (fd 27 3).offset = 3 := by kernel_rfl
theorem tt28 : tt 28 = some ⟨.slice 23, 1, 24, .slice none 0 0, false⟩ := by kernel_rfl
theorem tt29 : tt 29 = some ⟨.array 3 3, 3, 24, .agg #[.int .i64 0, .int .i64 0, .int .i64 0], false⟩ := by kernel_rfl
theorem zc29 : (Value.agg #[.int .i64 0, .int .i64 0, .int .i64 0]).cells.toList = [.int .i64 0, .int .i64 0, .int .i64 0] := by kernel_rfl
theorem tt30 : tt 30 = some ⟨.pointer 32, 1, 8, .pointer none, false⟩ := by kernel_rfl
theorem tt31 : tt 31 = some ⟨.struct (fl 31), 2, 32, .agg #[.int .i64 0, .slice none 0 0], false⟩ := by kernel_rfl
theorem zc31 : (Value.agg #[.int .i64 0, .slice none 0 0]).cells.toList = [.int .i64 0, .slice none 0 0] := by kernel_rfl
theorem fll31 : (fl 31).toList = [fd 31 0, fd 31 1] := by kernel_rfl
theorem fl31_0 : (fl 31)[0]? = some (fd 31 0) := by kernel_rfl
theorem fdt31_0 : (fd 31 0).type = 3 := by kernel_rfl
theorem fdo31_0 : (fd 31 0).offset = 0 := by kernel_rfl
theorem fl31_1 : (fl 31)[1]? = some (fd 31 1) := by kernel_rfl
theorem fdt31_1 : (fd 31 1).type = 23 := by kernel_rfl
theorem fdo31_1 : (fd 31 1).offset = 1 := by kernel_rfl
theorem tt32 : tt 32 = some ⟨.struct (fl 32), 2, 32, .agg #[.int .i64 0, .slice none 0 0], false⟩ := by kernel_rfl
theorem fll32 : (fl 32).toList = [fd 32 0, fd 32 1] := by kernel_rfl
theorem fl32_0 : (fl 32)[0]? = some (fd 32 0) := by kernel_rfl
theorem fdt32_0 : (fd 32 0).type = 3 := by kernel_rfl
theorem fdo32_0 : (fd 32 0).offset = 0 := by kernel_rfl
theorem fl32_1 : (fl 32)[1]? = some (fd 32 1) := by kernel_rfl
theorem fdt32_1 : (fd 32 1).type = 23 := by kernel_rfl
theorem fdo32_1 : (fd 32 1).offset = 1 := by kernel_rfl
theorem tt33 : tt 33 = some ⟨.int .u64, 1, 8, .int .u64 0, false⟩ := by kernel_rfl
theorem tt34 : tt 34 = some ⟨.struct (fl 34), 3, 40, .agg #[.int .i64 0, .int .i64 0, .slice none 0 0], false⟩ := by kernel_rfl
theorem zc34 : (Value.agg #[.int .i64 0, .int .i64 0, .slice none 0 0]).cells.toList = [.int .i64 0, .int .i64 0, .slice none 0 0] := by kernel_rfl
theorem fll34 : (fl 34).toList = [fd 34 0, fd 34 1, fd 34 2] := by kernel_rfl
theorem fl34_0 : (fl 34)[0]? = some (fd 34 0) := by kernel_rfl
theorem fdt34_0 : (fd 34 0).type = 3 := by kernel_rfl
theorem fdo34_0 : (fd 34 0).offset = 0 := by kernel_rfl
theorem fl34_1 : (fl 34)[1]? = some (fd 34 1) := by kernel_rfl
theorem fdt34_1 : (fd 34 1).type = 3 := by kernel_rfl
theorem fdo34_1 : (fd 34 1).offset = 1 := by kernel_rfl
theorem fl34_2 : (fl 34)[2]? = some (fd 34 2) := by kernel_rfl
theorem fdt34_2 : (fd 34 2).type = 28 := by kernel_rfl
theorem fdo34_2 : (fd 34 2).offset = 2 := by kernel_rfl
theorem tt35 : tt 35 = some ⟨.struct (fl 35), 3, 40, .agg #[.int .i64 0, .int .i64 0, .slice none 0 0], false⟩ := by kernel_rfl
theorem fll35 : (fl 35).toList = [fd 35 0, fd 35 1, fd 35 2] := by kernel_rfl
theorem fl35_0 : (fl 35)[0]? = some (fd 35 0) := by kernel_rfl
theorem fdt35_0 : (fd 35 0).type = 3 := by kernel_rfl
theorem fdo35_0 : (fd 35 0).offset = 0 := by kernel_rfl
theorem fl35_1 : (fl 35)[1]? = some (fd 35 1) := by kernel_rfl
theorem fdt35_1 : (fd 35 1).type = 3 := by kernel_rfl
theorem fdo35_1 : (fd 35 1).offset = 1 := by kernel_rfl
theorem fl35_2 : (fl 35)[2]? = some (fd 35 2) := by kernel_rfl
theorem fdt35_2 : (fd 35 2).type = 28 := by kernel_rfl
theorem fdo35_2 : (fd 35 2).offset = 2 := by kernel_rfl
theorem tt37 : tt 37 = some ⟨.func #[24, 3] #[35, 4] false, 1, 8, .nilFunc, false⟩ := by kernel_rfl
theorem tt38 : tt 38 = some ⟨.func #[] #[4] false, 1, 8, .nilFunc, false⟩ := by kernel_rfl
theorem tt39 : tt 39 = some ⟨.func #[24] #[23] false, 1, 8, .nilFunc, false⟩ := by kernel_rfl
theorem tt40 : tt 40 = some ⟨.func #[23, 23] #[4] false, 1, 8, .nilFunc, false⟩ := by kernel_rfl
theorem tt41 : tt 41 = some ⟨.func #[] #[3] false, 1, 8, .nilFunc, false⟩ := by kernel_rfl
theorem tt42 : tt 42 = some ⟨.func #[3, 3] #[23] false, 1, 8, .nilFunc, false⟩ := by kernel_rfl
theorem tt43 : tt 43 = some ⟨.func #[22, 23, 3] #[4] false, 1, 8, .nilFunc, false⟩ := by kernel_rfl
theorem tt44 : tt 44 = some ⟨.func #[3, 3] #[35] false, 1, 8, .nilFunc, false⟩ := by kernel_rfl
theorem tt46 : tt 46 = some ⟨.func #[27, 27, 3, 3] #[23, 4] false, 1, 8, .nilFunc, false⟩ := by kernel_rfl
theorem tt47 : tt 47 = some ⟨.func #[3, 3, 3] #[35, 4] false, 1, 8, .nilFunc, false⟩ := by kernel_rfl
theorem tt48 : tt 48 = some ⟨.func #[3, 3] #[3] false, 1, 8, .nilFunc, false⟩ := by kernel_rfl
theorem tt49 : tt 49 = some ⟨.func #[23] #[23] false, 1, 8, .nilFunc, false⟩ := by kernel_rfl
theorem tt50 : tt 50 = some ⟨.func #[3, 23] #[35] false, 1, 8, .nilFunc, false⟩ := by kernel_rfl
theorem tt51 : tt 51 = some ⟨.func #[28] #[28] false, 1, 8, .nilFunc, false⟩ := by kernel_rfl
theorem tt52 : tt 52 = some ⟨.func #[] #[9] false, 1, 8, .nilFunc, false⟩ := by kernel_rfl
theorem tt53 : tt 53 = some ⟨.struct (fl 53), 4, 40, .agg #[.pointer none, .pointer none, .pointer none, .string ByteArray.empty], false⟩ := by kernel_rfl
theorem zc53 : (Value.agg #[.pointer none, .pointer none, .pointer none, .string ByteArray.empty]).cells.toList = [.pointer none, .pointer none, .pointer none, .string ByteArray.empty] := by kernel_rfl
theorem fll53 : (fl 53).toList = [fd 53 0, fd 53 1, fd 53 2, fd 53 3] := by kernel_rfl
theorem fl53_0 : (fl 53)[0]? = some (fd 53 0) := by kernel_rfl
theorem fdt53_0 : (fd 53 0).type = 17 := by kernel_rfl
theorem fdo53_0 : (fd 53 0).offset = 0 := by kernel_rfl
theorem fl53_1 : (fl 53)[1]? = some (fd 53 1) := by kernel_rfl
theorem fdt53_1 : (fd 53 1).type = 17 := by kernel_rfl
theorem fdo53_1 : (fd 53 1).offset = 1 := by kernel_rfl
theorem fl53_2 : (fl 53)[2]? = some (fd 53 2) := by kernel_rfl
theorem fdt53_2 : (fd 53 2).type = 17 := by kernel_rfl
theorem fdo53_2 : (fd 53 2).offset = 2 := by kernel_rfl
theorem fl53_3 : (fl 53)[3]? = some (fd 53 3) := by kernel_rfl
theorem fdt53_3 : (fd 53 3).type = 9 := by kernel_rfl
theorem fdo53_3 : (fd 53 3).offset = 3 := by kernel_rfl
theorem tt54 : tt 54 = some ⟨.struct (fl 54), 4, 40, .agg #[.pointer none, .pointer none, .pointer none, .string ByteArray.empty], false⟩ := by kernel_rfl
theorem fll54 : (fl 54).toList = [fd 54 0, fd 54 1, fd 54 2, fd 54 3] := by kernel_rfl
theorem fl54_0 : (fl 54)[0]? = some (fd 54 0) := by kernel_rfl
theorem fdt54_0 : (fd 54 0).type = 17 := by kernel_rfl
theorem fdo54_0 : (fd 54 0).offset = 0 := by kernel_rfl
theorem fl54_1 : (fl 54)[1]? = some (fd 54 1) := by kernel_rfl
theorem fdt54_1 : (fd 54 1).type = 17 := by kernel_rfl
theorem fdo54_1 : (fd 54 1).offset = 1 := by kernel_rfl
theorem fl54_2 : (fl 54)[2]? = some (fd 54 2) := by kernel_rfl
theorem fdt54_2 : (fd 54 2).type = 17 := by kernel_rfl
theorem fdo54_2 : (fd 54 2).offset = 2 := by kernel_rfl
theorem fl54_3 : (fl 54)[3]? = some (fd 54 3) := by kernel_rfl
theorem fdt54_3 : (fd 54 3).type = 9 := by kernel_rfl
theorem fdo54_3 : (fd 54 3).offset = 3 := by kernel_rfl
theorem tt58 : tt 58 = some ⟨.int .u32, 1, 4, .int .u32 0, false⟩ := by kernel_rfl
theorem tt59 : tt 59 = some ⟨.int .u8, 1, 1, .int .u8 0, false⟩ := by kernel_rfl
theorem tt60 : tt 60 = some ⟨.int .u8, 1, 1, .int .u8 0, false⟩ := by kernel_rfl
theorem tt61 : tt 61 = some ⟨.func #[67, 67] #[4] false, 1, 8, .nilFunc, false⟩ := by kernel_rfl
theorem tt62 : tt 62 = some ⟨.pointer 5, 1, 8, .pointer none, false⟩ := by kernel_rfl
theorem tt63 : tt 63 = some ⟨.int .i32, 1, 4, .int .i32 0, false⟩ := by kernel_rfl
theorem tt64 : tt 64 = some ⟨.int .i32, 1, 4, .int .i32 0, false⟩ := by kernel_rfl
theorem tt65 : tt 65 = some ⟨.struct (fl 65), 11, 48, .agg #[.int .u64 0, .int .u64 0, .int .u32 0, .int .u8 0, .int .u8 0, .int .u8 0, .int .u8 0, .nilFunc, .pointer none, .int .i32 0, .int .i32 0], false⟩ := by kernel_rfl
theorem zc65 : (Value.agg #[.int .u64 0, .int .u64 0, .int .u32 0, .int .u8 0, .int .u8 0, .int .u8 0, .int .u8 0, .nilFunc, .pointer none, .int .i32 0, .int .i32 0]).cells.toList = [.int .u64 0, .int .u64 0, .int .u32 0, .int .u8 0, .int .u8 0, .int .u8 0, .int .u8 0, .nilFunc, .pointer none, .int .i32 0, .int .i32 0] := by kernel_rfl
theorem fll65 : (fl 65).toList = [fd 65 0, fd 65 1, fd 65 2, fd 65 3, fd 65 4, fd 65 5, fd 65 6, fd 65 7, fd 65 8, fd 65 9, fd 65 10] := by kernel_rfl
theorem fl65_0 : (fl 65)[0]? = some (fd 65 0) := by kernel_rfl
theorem fdt65_0 : (fd 65 0).type = 12 := by kernel_rfl
theorem fdo65_0 : (fd 65 0).offset = 0 := by kernel_rfl
theorem fl65_1 : (fl 65)[1]? = some (fd 65 1) := by kernel_rfl
theorem fdt65_1 : (fd 65 1).type = 12 := by kernel_rfl
theorem fdo65_1 : (fd 65 1).offset = 1 := by kernel_rfl
theorem fl65_2 : (fl 65)[2]? = some (fd 65 2) := by kernel_rfl
theorem fdt65_2 : (fd 65 2).type = 58 := by kernel_rfl
theorem fdo65_2 : (fd 65 2).offset = 2 := by kernel_rfl
theorem fl65_3 : (fl 65)[3]? = some (fd 65 3) := by kernel_rfl
theorem fdt65_3 : (fd 65 3).type = 59 := by kernel_rfl
theorem fdo65_3 : (fd 65 3).offset = 3 := by kernel_rfl
theorem fl65_4 : (fl 65)[4]? = some (fd 65 4) := by kernel_rfl
theorem fdt65_4 : (fd 65 4).type = 5 := by kernel_rfl
theorem fdo65_4 : (fd 65 4).offset = 4 := by kernel_rfl
theorem fl65_5 : (fl 65)[5]? = some (fd 65 5) := by kernel_rfl
theorem fdt65_5 : (fd 65 5).type = 5 := by kernel_rfl
theorem fdo65_5 : (fd 65 5).offset = 5 := by kernel_rfl
theorem fl65_6 : (fl 65)[6]? = some (fd 65 6) := by kernel_rfl
theorem fdt65_6 : (fd 65 6).type = 60 := by kernel_rfl
theorem fdo65_6 : (fd 65 6).offset = 6 := by kernel_rfl
theorem fl65_7 : (fl 65)[7]? = some (fd 65 7) := by kernel_rfl
theorem fdt65_7 : (fd 65 7).type = 61 := by kernel_rfl
theorem fdo65_7 : (fd 65 7).offset = 7 := by kernel_rfl
theorem fl65_8 : (fl 65)[8]? = some (fd 65 8) := by kernel_rfl
theorem fdt65_8 : (fd 65 8).type = 62 := by kernel_rfl
theorem fdo65_8 : (fd 65 8).offset = 8 := by kernel_rfl
theorem fl65_9 : (fl 65)[9]? = some (fd 65 9) := by kernel_rfl
theorem fdt65_9 : (fd 65 9).type = 63 := by kernel_rfl
theorem fdo65_9 : (fd 65 9).offset = 9 := by kernel_rfl
theorem fl65_10 : (fl 65)[10]? = some (fd 65 10) := by kernel_rfl
theorem fdt65_10 : (fd 65 10).type = 64 := by kernel_rfl
theorem fdo65_10 : (fd 65 10).offset = 10 := by kernel_rfl
theorem tt66 : tt 66 = some ⟨.struct (fl 66), 11, 48, .agg #[.int .u64 0, .int .u64 0, .int .u32 0, .int .u8 0, .int .u8 0, .int .u8 0, .int .u8 0, .nilFunc, .pointer none, .int .i32 0, .int .i32 0], false⟩ := by kernel_rfl
theorem fll66 : (fl 66).toList = [fd 66 0, fd 66 1, fd 66 2, fd 66 3, fd 66 4, fd 66 5, fd 66 6, fd 66 7, fd 66 8, fd 66 9, fd 66 10] := by kernel_rfl
theorem fl66_0 : (fl 66)[0]? = some (fd 66 0) := by kernel_rfl
theorem fdt66_0 : (fd 66 0).type = 12 := by kernel_rfl
theorem fdo66_0 : (fd 66 0).offset = 0 := by kernel_rfl
theorem fl66_1 : (fl 66)[1]? = some (fd 66 1) := by kernel_rfl
theorem fdt66_1 : (fd 66 1).type = 12 := by kernel_rfl
theorem fdo66_1 : (fd 66 1).offset = 1 := by kernel_rfl
theorem fl66_2 : (fl 66)[2]? = some (fd 66 2) := by kernel_rfl
theorem fdt66_2 : (fd 66 2).type = 58 := by kernel_rfl
theorem fdo66_2 : (fd 66 2).offset = 2 := by kernel_rfl
theorem fl66_3 : (fl 66)[3]? = some (fd 66 3) := by kernel_rfl
theorem fdt66_3 : (fd 66 3).type = 59 := by kernel_rfl
theorem fdo66_3 : (fd 66 3).offset = 3 := by kernel_rfl
theorem fl66_4 : (fl 66)[4]? = some (fd 66 4) := by kernel_rfl
theorem fdt66_4 : (fd 66 4).type = 5 := by kernel_rfl
theorem fdo66_4 : (fd 66 4).offset = 4 := by kernel_rfl
theorem fl66_5 : (fl 66)[5]? = some (fd 66 5) := by kernel_rfl
theorem fdt66_5 : (fd 66 5).type = 5 := by kernel_rfl
theorem fdo66_5 : (fd 66 5).offset = 5 := by kernel_rfl
theorem fl66_6 : (fl 66)[6]? = some (fd 66 6) := by kernel_rfl
theorem fdt66_6 : (fd 66 6).type = 60 := by kernel_rfl
theorem fdo66_6 : (fd 66 6).offset = 6 := by kernel_rfl
theorem fl66_7 : (fl 66)[7]? = some (fd 66 7) := by kernel_rfl
theorem fdt66_7 : (fd 66 7).type = 61 := by kernel_rfl
theorem fdo66_7 : (fd 66 7).offset = 7 := by kernel_rfl
theorem fl66_8 : (fl 66)[8]? = some (fd 66 8) := by kernel_rfl
theorem fdt66_8 : (fd 66 8).type = 62 := by kernel_rfl
theorem fdo66_8 : (fd 66 8).offset = 8 := by kernel_rfl
theorem fl66_9 : (fl 66)[9]? = some (fd 66 9) := by kernel_rfl
theorem fdt66_9 : (fd 66 9).type = 63 := by kernel_rfl
theorem fdo66_9 : (fd 66 9).offset = 9 := by kernel_rfl
theorem fl66_10 : (fl 66)[10]? = some (fd 66 10) := by kernel_rfl
theorem fdt66_10 : (fd 66 10).type = 64 := by kernel_rfl
theorem fdo66_10 : (fd 66 10).offset = 10 := by kernel_rfl
theorem fnok4 : FnOk Try.prog 4 := ⟨_, Try.func4, by kernel_rfl, by kernel_rfl⟩
theorem fnok5 : FnOk Try.prog 5 := ⟨_, Try.func5, by kernel_rfl, by kernel_rfl⟩
theorem fnok6 : FnOk Try.prog 6 := ⟨_, Try.func6, by kernel_rfl, by kernel_rfl⟩
theorem fnok7 : FnOk Try.prog 7 := ⟨_, Try.func7, by kernel_rfl, by kernel_rfl⟩
theorem fnok8 : FnOk Try.prog 8 := ⟨_, Try.func8, by kernel_rfl, by kernel_rfl⟩
theorem fnok9 : FnOk Try.prog 9 := ⟨_, Try.func9, by kernel_rfl, by kernel_rfl⟩
theorem fnok10 : FnOk Try.prog 10 := ⟨_, Try.func10, by kernel_rfl, by kernel_rfl⟩
theorem fnok11 : FnOk Try.prog 11 := ⟨_, Try.func11, by kernel_rfl, by kernel_rfl⟩
theorem fnok12 : FnOk Try.prog 12 := ⟨_, Try.func12, by kernel_rfl, by kernel_rfl⟩
theorem fnok13 : FnOk Try.prog 13 := ⟨_, Try.func13, by kernel_rfl, by kernel_rfl⟩
theorem fnok14 : FnOk Try.prog 14 := ⟨_, Try.func14, by kernel_rfl, by kernel_rfl⟩
theorem fnok15 : FnOk Try.prog 15 := ⟨_, Try.func15, by kernel_rfl, by kernel_rfl⟩
theorem fnok16 : FnOk Try.prog 16 := ⟨_, Try.func16, by kernel_rfl, by kernel_rfl⟩
theorem fnok17 : FnOk Try.prog 17 := ⟨_, Try.func17, by kernel_rfl, by kernel_rfl⟩
theorem tyA0 : (tt 1 = some ⟨.func #[] #[] false, 1, 8, .nilFunc, false⟩) ∧ (tt 2 = some ⟨.int .i64, 1, 8, .int .i64 0, false⟩) ∧ (tt 3 = some ⟨.int .i64, 1, 8, .int .i64 0, false⟩) ∧ (tt 4 = some ⟨.bool, 1, 1, .bool false, false⟩) ∧ (tt 5 = some ⟨.int .u8, 1, 1, .int .u8 0, false⟩) ∧ (tt 6 = some ⟨.int .u8, 1, 1, .int .u8 0, false⟩) ∧ (tt 7 = some ⟨.struct (fl 7), 4, 24, .agg #[.int .i64 0, .int .i64 0, .bool false, .int .u8 0], false⟩) ∧ ((Value.agg #[.int .i64 0, .int .i64 0, .bool false, .int .u8 0]).cells.toList = [.int .i64 0, .int .i64 0, .bool false, .int .u8 0]) ∧ ((fl 7).toList = [fd 7 0, fd 7 1, fd 7 2, fd 7 3]) ∧ ((fl 7)[0]? = some (fd 7 0)) ∧ ((fd 7 0).type = 2) ∧ ((fd 7 0).offset = 0) ∧ ((fl 7)[1]? = some (fd 7 1)) ∧ ((fd 7 1).type = 3) ∧ ((fd 7 1).offset = 1) ∧ ((fl 7)[2]? = some (fd 7 2)) ∧ ((fd 7 2).type = 4) ∧ ((fd 7 2).offset = 2) ∧ ((fl 7)[3]? = some (fd 7 3)) ∧ ((fd 7 3).type = 6) ∧ ((fd 7 3).offset = 3) ∧ (tt 8 = some ⟨.struct (fl 8), 4, 24, .agg #[.int .i64 0, .int .i64 0, .bool false, .int .u8 0], false⟩) ∧ ((fl 8).toList = [fd 8 0, fd 8 1, fd 8 2, fd 8 3]) ∧ ((fl 8)[0]? = some (fd 8 0)) ∧ ((fd 8 0).type = 2) ∧ ((fd 8 0).offset = 0) ∧ ((fl 8)[1]? = some (fd 8 1)) ∧ ((fd 8 1).type = 3) ∧ ((fd 8 1).offset = 1) ∧ ((fl 8)[2]? = some (fd 8 2)) ∧ ((fd 8 2).type = 4) ∧ ((fd 8 2).offset = 2) ∧ ((fl 8)[3]? = some (fd 8 3)) ∧ ((fd 8 3).type = 6) ∧ ((fd 8 3).offset = 3) ∧ (tt 9 = some ⟨.string, 1, 16, .string ByteArray.empty, false⟩) ∧ (tt 10 = some ⟨.string, 1, 16, .string ByteArray.empty, false⟩) ∧ (tt 11 = some ⟨.string, 1, 16, .string ByteArray.empty, false⟩) ∧ (tt 12 = some ⟨.int .u64, 1, 8, .int .u64 0, false⟩) ∧ (tt 13 = some ⟨.struct (fl 13), 2, 24, .agg #[.string ByteArray.empty, .int .u64 0], false⟩) := ⟨tt1, tt2, tt3, tt4, tt5, tt6, tt7, zc7, fll7, fl7_0, fdt7_0, fdo7_0, fl7_1, fdt7_1, fdo7_1, fl7_2, fdt7_2, fdo7_2, fl7_3, fdt7_3, fdo7_3, tt8, fll8, fl8_0, fdt8_0, fdo8_0, fl8_1, fdt8_1, fdo8_1, fl8_2, fdt8_2, fdo8_2, fl8_3, fdt8_3, fdo8_3, tt9, tt10, tt11, tt12, tt13⟩
theorem tyA1 : ((Value.agg #[.string ByteArray.empty, .int .u64 0]).cells.toList = [.string ByteArray.empty, .int .u64 0]) ∧ ((fl 13).toList = [fd 13 0, fd 13 1]) ∧ ((fl 13)[0]? = some (fd 13 0)) ∧ ((fd 13 0).type = 9) ∧ ((fd 13 0).offset = 0) ∧ ((fl 13)[1]? = some (fd 13 1)) ∧ ((fd 13 1).type = 12) ∧ ((fd 13 1).offset = 1) ∧ (tt 14 = some ⟨.struct (fl 14), 2, 24, .agg #[.string ByteArray.empty, .int .u64 0], false⟩) ∧ ((fl 14).toList = [fd 14 0, fd 14 1]) ∧ ((fl 14)[0]? = some (fd 14 0)) ∧ ((fd 14 0).type = 9) ∧ ((fd 14 0).offset = 0) ∧ ((fl 14)[1]? = some (fd 14 1)) ∧ ((fd 14 1).type = 12) ∧ ((fd 14 1).offset = 1) ∧ (tt 15 = some ⟨.pointer 54, 1, 8, .pointer none, false⟩) ∧ (tt 16 = some ⟨.pointer 57, 1, 8, .pointer none, false⟩) ∧ (tt 17 = some ⟨.pointer 66, 1, 8, .pointer none, false⟩) ∧ (tt 18 = some ⟨.struct (fl 18), 1, 8, .agg #[.pointer none], false⟩) ∧ ((Value.agg #[.pointer none]).cells.toList = [.pointer none]) ∧ ((fl 18).toList = [fd 18 0]) ∧ ((fl 18)[0]? = some (fd 18 0)) ∧ ((fd 18 0).type = 17) ∧ ((fd 18 0).offset = 0) ∧ (tt 19 = some ⟨.struct (fl 19), 1, 8, .agg #[.pointer none], false⟩) ∧ ((fl 19).toList = [fd 19 0]) ∧ ((fl 19)[0]? = some (fd 19 0)) ∧ ((fd 19 0).type = 17) ∧ ((fd 19 0).offset = 0) ∧ (tt 21 = some ⟨.int .i32, 1, 4, .int .i32 0, false⟩) ∧ (tt 22 = some ⟨.slice 29, 1, 24, .slice none 0 0, false⟩) ∧ (tt 23 = some ⟨.slice 3, 1, 24, .slice none 0 0, false⟩) ∧ (tt 24 = some ⟨.slice 27, 1, 24, .slice none 0 0, false⟩) ∧ (tt 25 = some ⟨.slice 32, 1, 24, .slice none 0 0, false⟩) ∧ (tt 26 = some ⟨.struct (fl 26), 4, 64, .agg #[.int .i64 0, .int .i64 0, .slice none 0 0, .slice none 0 0], false⟩) ∧ ((Value.agg #[.int .i64 0, .int .i64 0, .slice none 0 0, .slice none 0 0]).cells.toList = [.int .i64 0, .int .i64 0, .slice none 0 0, .slice none 0 0]) ∧ ((fl 26).toList = [fd 26 0, fd 26 1, fd 26 2, fd 26 3]) ∧ ((fl 26)[0]? = some (fd 26 0)) ∧ ((fd 26 0).type = 3) := ⟨zc13, fll13, fl13_0, fdt13_0, fdo13_0, fl13_1, fdt13_1, fdo13_1, tt14, fll14, fl14_0, fdt14_0, fdo14_0, fl14_1, fdt14_1, fdo14_1, tt15, tt16, tt17, tt18, zc18, fll18, fl18_0, fdt18_0, fdo18_0, tt19, fll19, fl19_0, fdt19_0, fdo19_0, tt21, tt22, tt23, tt24, tt25, tt26, zc26, fll26, fl26_0, fdt26_0⟩
theorem tyA2 : ((fd 26 0).offset = 0) ∧ ((fl 26)[1]? = some (fd 26 1)) ∧ ((fd 26 1).type = 3) ∧ ((fd 26 1).offset = 1) ∧ ((fl 26)[2]? = some (fd 26 2)) ∧ ((fd 26 2).type = 25) ∧ ((fd 26 2).offset = 2) ∧ ((fl 26)[3]? = some (fd 26 3)) ∧ ((fd 26 3).type = 23) ∧ ((fd 26 3).offset = 3) ∧ (tt 27 = some ⟨.struct (fl 27), 4, 64, .agg #[.int .i64 0, .int .i64 0, .slice none 0 0, .slice none 0 0], false⟩) ∧ ((fl 27).toList = [fd 27 0, fd 27 1, fd 27 2, fd 27 3]) ∧ ((fl 27)[0]? = some (fd 27 0)) ∧ ((fd 27 0).type = 3) ∧ ((fd 27 0).offset = 0) ∧ ((fl 27)[1]? = some (fd 27 1)) ∧ ((fd 27 1).type = 3) ∧ ((fd 27 1).offset = 1) ∧ ((fl 27)[2]? = some (fd 27 2)) ∧ ((fd 27 2).type = 25) ∧ ((fd 27 2).offset = 2) ∧ ((fl 27)[3]? = some (fd 27 3)) ∧ ((fd 27 3).type = 23) ∧ ((fd 27 3).offset = 3) ∧ (tt 28 = some ⟨.slice 23, 1, 24, .slice none 0 0, false⟩) ∧ (tt 29 = some ⟨.array 3 3, 3, 24, .agg #[.int .i64 0, .int .i64 0, .int .i64 0], false⟩) ∧ ((Value.agg #[.int .i64 0, .int .i64 0, .int .i64 0]).cells.toList = [.int .i64 0, .int .i64 0, .int .i64 0]) ∧ (tt 30 = some ⟨.pointer 32, 1, 8, .pointer none, false⟩) ∧ (tt 31 = some ⟨.struct (fl 31), 2, 32, .agg #[.int .i64 0, .slice none 0 0], false⟩) ∧ ((Value.agg #[.int .i64 0, .slice none 0 0]).cells.toList = [.int .i64 0, .slice none 0 0]) ∧ ((fl 31).toList = [fd 31 0, fd 31 1]) ∧ ((fl 31)[0]? = some (fd 31 0)) ∧ ((fd 31 0).type = 3) ∧ ((fd 31 0).offset = 0) ∧ ((fl 31)[1]? = some (fd 31 1)) ∧ ((fd 31 1).type = 23) ∧ ((fd 31 1).offset = 1) ∧ (tt 32 = some ⟨.struct (fl 32), 2, 32, .agg #[.int .i64 0, .slice none 0 0], false⟩) ∧ ((fl 32).toList = [fd 32 0, fd 32 1]) ∧ ((fl 32)[0]? = some (fd 32 0)) := ⟨fdo26_0, fl26_1, fdt26_1, fdo26_1, fl26_2, fdt26_2, fdo26_2, fl26_3, fdt26_3, fdo26_3, tt27, fll27, fl27_0, fdt27_0, fdo27_0, fl27_1, fdt27_1, fdo27_1, fl27_2, fdt27_2, fdo27_2, fl27_3, fdt27_3, fdo27_3, tt28, tt29, zc29, tt30, tt31, zc31, fll31, fl31_0, fdt31_0, fdo31_0, fl31_1, fdt31_1, fdo31_1, tt32, fll32, fl32_0⟩
theorem tyA3 : ((fd 32 0).type = 3) ∧ ((fd 32 0).offset = 0) ∧ ((fl 32)[1]? = some (fd 32 1)) ∧ ((fd 32 1).type = 23) ∧ ((fd 32 1).offset = 1) ∧ (tt 33 = some ⟨.int .u64, 1, 8, .int .u64 0, false⟩) ∧ (tt 34 = some ⟨.struct (fl 34), 3, 40, .agg #[.int .i64 0, .int .i64 0, .slice none 0 0], false⟩) ∧ ((Value.agg #[.int .i64 0, .int .i64 0, .slice none 0 0]).cells.toList = [.int .i64 0, .int .i64 0, .slice none 0 0]) ∧ ((fl 34).toList = [fd 34 0, fd 34 1, fd 34 2]) ∧ ((fl 34)[0]? = some (fd 34 0)) ∧ ((fd 34 0).type = 3) ∧ ((fd 34 0).offset = 0) ∧ ((fl 34)[1]? = some (fd 34 1)) ∧ ((fd 34 1).type = 3) ∧ ((fd 34 1).offset = 1) ∧ ((fl 34)[2]? = some (fd 34 2)) ∧ ((fd 34 2).type = 28) ∧ ((fd 34 2).offset = 2) ∧ (tt 35 = some ⟨.struct (fl 35), 3, 40, .agg #[.int .i64 0, .int .i64 0, .slice none 0 0], false⟩) ∧ ((fl 35).toList = [fd 35 0, fd 35 1, fd 35 2]) ∧ ((fl 35)[0]? = some (fd 35 0)) ∧ ((fd 35 0).type = 3) ∧ ((fd 35 0).offset = 0) ∧ ((fl 35)[1]? = some (fd 35 1)) ∧ ((fd 35 1).type = 3) ∧ ((fd 35 1).offset = 1) ∧ ((fl 35)[2]? = some (fd 35 2)) ∧ ((fd 35 2).type = 28) ∧ ((fd 35 2).offset = 2) ∧ (tt 37 = some ⟨.func #[24, 3] #[35, 4] false, 1, 8, .nilFunc, false⟩) ∧ (tt 38 = some ⟨.func #[] #[4] false, 1, 8, .nilFunc, false⟩) ∧ (tt 39 = some ⟨.func #[24] #[23] false, 1, 8, .nilFunc, false⟩) ∧ (tt 40 = some ⟨.func #[23, 23] #[4] false, 1, 8, .nilFunc, false⟩) ∧ (tt 41 = some ⟨.func #[] #[3] false, 1, 8, .nilFunc, false⟩) ∧ (tt 42 = some ⟨.func #[3, 3] #[23] false, 1, 8, .nilFunc, false⟩) ∧ (tt 43 = some ⟨.func #[22, 23, 3] #[4] false, 1, 8, .nilFunc, false⟩) ∧ (tt 44 = some ⟨.func #[3, 3] #[35] false, 1, 8, .nilFunc, false⟩) ∧ (tt 46 = some ⟨.func #[27, 27, 3, 3] #[23, 4] false, 1, 8, .nilFunc, false⟩) ∧ (tt 47 = some ⟨.func #[3, 3, 3] #[35, 4] false, 1, 8, .nilFunc, false⟩) ∧ (tt 48 = some ⟨.func #[3, 3] #[3] false, 1, 8, .nilFunc, false⟩) := ⟨fdt32_0, fdo32_0, fl32_1, fdt32_1, fdo32_1, tt33, tt34, zc34, fll34, fl34_0, fdt34_0, fdo34_0, fl34_1, fdt34_1, fdo34_1, fl34_2, fdt34_2, fdo34_2, tt35, fll35, fl35_0, fdt35_0, fdo35_0, fl35_1, fdt35_1, fdo35_1, fl35_2, fdt35_2, fdo35_2, tt37, tt38, tt39, tt40, tt41, tt42, tt43, tt44, tt46, tt47, tt48⟩
theorem tyA4 : (tt 49 = some ⟨.func #[23] #[23] false, 1, 8, .nilFunc, false⟩) ∧ (tt 50 = some ⟨.func #[3, 23] #[35] false, 1, 8, .nilFunc, false⟩) ∧ (tt 51 = some ⟨.func #[28] #[28] false, 1, 8, .nilFunc, false⟩) ∧ (tt 52 = some ⟨.func #[] #[9] false, 1, 8, .nilFunc, false⟩) ∧ (tt 53 = some ⟨.struct (fl 53), 4, 40, .agg #[.pointer none, .pointer none, .pointer none, .string ByteArray.empty], false⟩) ∧ ((Value.agg #[.pointer none, .pointer none, .pointer none, .string ByteArray.empty]).cells.toList = [.pointer none, .pointer none, .pointer none, .string ByteArray.empty]) ∧ ((fl 53).toList = [fd 53 0, fd 53 1, fd 53 2, fd 53 3]) ∧ ((fl 53)[0]? = some (fd 53 0)) ∧ ((fd 53 0).type = 17) ∧ ((fd 53 0).offset = 0) ∧ ((fl 53)[1]? = some (fd 53 1)) ∧ ((fd 53 1).type = 17) ∧ ((fd 53 1).offset = 1) ∧ ((fl 53)[2]? = some (fd 53 2)) ∧ ((fd 53 2).type = 17) ∧ ((fd 53 2).offset = 2) ∧ ((fl 53)[3]? = some (fd 53 3)) ∧ ((fd 53 3).type = 9) ∧ ((fd 53 3).offset = 3) ∧ (tt 54 = some ⟨.struct (fl 54), 4, 40, .agg #[.pointer none, .pointer none, .pointer none, .string ByteArray.empty], false⟩) ∧ ((fl 54).toList = [fd 54 0, fd 54 1, fd 54 2, fd 54 3]) ∧ ((fl 54)[0]? = some (fd 54 0)) ∧ ((fd 54 0).type = 17) ∧ ((fd 54 0).offset = 0) ∧ ((fl 54)[1]? = some (fd 54 1)) ∧ ((fd 54 1).type = 17) ∧ ((fd 54 1).offset = 1) ∧ ((fl 54)[2]? = some (fd 54 2)) ∧ ((fd 54 2).type = 17) ∧ ((fd 54 2).offset = 2) ∧ ((fl 54)[3]? = some (fd 54 3)) ∧ ((fd 54 3).type = 9) ∧ ((fd 54 3).offset = 3) ∧ (tt 58 = some ⟨.int .u32, 1, 4, .int .u32 0, false⟩) ∧ (tt 59 = some ⟨.int .u8, 1, 1, .int .u8 0, false⟩) ∧ (tt 60 = some ⟨.int .u8, 1, 1, .int .u8 0, false⟩) ∧ (tt 61 = some ⟨.func #[67, 67] #[4] false, 1, 8, .nilFunc, false⟩) ∧ (tt 62 = some ⟨.pointer 5, 1, 8, .pointer none, false⟩) ∧ (tt 63 = some ⟨.int .i32, 1, 4, .int .i32 0, false⟩) ∧ (tt 64 = some ⟨.int .i32, 1, 4, .int .i32 0, false⟩) := ⟨tt49, tt50, tt51, tt52, tt53, zc53, fll53, fl53_0, fdt53_0, fdo53_0, fl53_1, fdt53_1, fdo53_1, fl53_2, fdt53_2, fdo53_2, fl53_3, fdt53_3, fdo53_3, tt54, fll54, fl54_0, fdt54_0, fdo54_0, fl54_1, fdt54_1, fdo54_1, fl54_2, fdt54_2, fdo54_2, fl54_3, fdt54_3, fdo54_3, tt58, tt59, tt60, tt61, tt62, tt63, tt64⟩
theorem tyA5 : (tt 65 = some ⟨.struct (fl 65), 11, 48, .agg #[.int .u64 0, .int .u64 0, .int .u32 0, .int .u8 0, .int .u8 0, .int .u8 0, .int .u8 0, .nilFunc, .pointer none, .int .i32 0, .int .i32 0], false⟩) ∧ ((Value.agg #[.int .u64 0, .int .u64 0, .int .u32 0, .int .u8 0, .int .u8 0, .int .u8 0, .int .u8 0, .nilFunc, .pointer none, .int .i32 0, .int .i32 0]).cells.toList = [.int .u64 0, .int .u64 0, .int .u32 0, .int .u8 0, .int .u8 0, .int .u8 0, .int .u8 0, .nilFunc, .pointer none, .int .i32 0, .int .i32 0]) ∧ ((fl 65).toList = [fd 65 0, fd 65 1, fd 65 2, fd 65 3, fd 65 4, fd 65 5, fd 65 6, fd 65 7, fd 65 8, fd 65 9, fd 65 10]) ∧ ((fl 65)[0]? = some (fd 65 0)) ∧ ((fd 65 0).type = 12) ∧ ((fd 65 0).offset = 0) ∧ ((fl 65)[1]? = some (fd 65 1)) ∧ ((fd 65 1).type = 12) ∧ ((fd 65 1).offset = 1) ∧ ((fl 65)[2]? = some (fd 65 2)) ∧ ((fd 65 2).type = 58) ∧ ((fd 65 2).offset = 2) ∧ ((fl 65)[3]? = some (fd 65 3)) ∧ ((fd 65 3).type = 59) ∧ ((fd 65 3).offset = 3) ∧ ((fl 65)[4]? = some (fd 65 4)) ∧ ((fd 65 4).type = 5) ∧ ((fd 65 4).offset = 4) ∧ ((fl 65)[5]? = some (fd 65 5)) ∧ ((fd 65 5).type = 5) ∧ ((fd 65 5).offset = 5) ∧ ((fl 65)[6]? = some (fd 65 6)) ∧ ((fd 65 6).type = 60) ∧ ((fd 65 6).offset = 6) ∧ ((fl 65)[7]? = some (fd 65 7)) ∧ ((fd 65 7).type = 61) ∧ ((fd 65 7).offset = 7) ∧ ((fl 65)[8]? = some (fd 65 8)) ∧ ((fd 65 8).type = 62) ∧ ((fd 65 8).offset = 8) ∧ ((fl 65)[9]? = some (fd 65 9)) ∧ ((fd 65 9).type = 63) ∧ ((fd 65 9).offset = 9) ∧ ((fl 65)[10]? = some (fd 65 10)) ∧ ((fd 65 10).type = 64) ∧ ((fd 65 10).offset = 10) ∧ (tt 66 = some ⟨.struct (fl 66), 11, 48, .agg #[.int .u64 0, .int .u64 0, .int .u32 0, .int .u8 0, .int .u8 0, .int .u8 0, .int .u8 0, .nilFunc, .pointer none, .int .i32 0, .int .i32 0], false⟩) ∧ ((fl 66).toList = [fd 66 0, fd 66 1, fd 66 2, fd 66 3, fd 66 4, fd 66 5, fd 66 6, fd 66 7, fd 66 8, fd 66 9, fd 66 10]) ∧ ((fl 66)[0]? = some (fd 66 0)) ∧ ((fd 66 0).type = 12) := ⟨tt65, zc65, fll65, fl65_0, fdt65_0, fdo65_0, fl65_1, fdt65_1, fdo65_1, fl65_2, fdt65_2, fdo65_2, fl65_3, fdt65_3, fdo65_3, fl65_4, fdt65_4, fdo65_4, fl65_5, fdt65_5, fdo65_5, fl65_6, fdt65_6, fdo65_6, fl65_7, fdt65_7, fdo65_7, fl65_8, fdt65_8, fdo65_8, fl65_9, fdt65_9, fdo65_9, fl65_10, fdt65_10, fdo65_10, tt66, fll66, fl66_0, fdt66_0⟩
theorem tyA6 : ((fd 66 0).offset = 0) ∧ ((fl 66)[1]? = some (fd 66 1)) ∧ ((fd 66 1).type = 12) ∧ ((fd 66 1).offset = 1) ∧ ((fl 66)[2]? = some (fd 66 2)) ∧ ((fd 66 2).type = 58) ∧ ((fd 66 2).offset = 2) ∧ ((fl 66)[3]? = some (fd 66 3)) ∧ ((fd 66 3).type = 59) ∧ ((fd 66 3).offset = 3) ∧ ((fl 66)[4]? = some (fd 66 4)) ∧ ((fd 66 4).type = 5) ∧ ((fd 66 4).offset = 4) ∧ ((fl 66)[5]? = some (fd 66 5)) ∧ ((fd 66 5).type = 5) ∧ ((fd 66 5).offset = 5) ∧ ((fl 66)[6]? = some (fd 66 6)) ∧ ((fd 66 6).type = 60) ∧ ((fd 66 6).offset = 6) ∧ ((fl 66)[7]? = some (fd 66 7)) ∧ ((fd 66 7).type = 61) ∧ ((fd 66 7).offset = 7) ∧ ((fl 66)[8]? = some (fd 66 8)) ∧ ((fd 66 8).type = 62) ∧ ((fd 66 8).offset = 8) ∧ ((fl 66)[9]? = some (fd 66 9)) ∧ ((fd 66 9).type = 63) ∧ ((fd 66 9).offset = 9) ∧ ((fl 66)[10]? = some (fd 66 10)) ∧ ((fd 66 10).type = 64) ∧ ((fd 66 10).offset = 10) := ⟨fdo66_0, fl66_1, fdt66_1, fdo66_1, fl66_2, fdt66_2, fdo66_2, fl66_3, fdt66_3, fdo66_3, fl66_4, fdt66_4, fdo66_4, fl66_5, fdt66_5, fdo66_5, fl66_6, fdt66_6, fdo66_6, fl66_7, fdt66_7, fdo66_7, fl66_8, fdt66_8, fdo66_8, fl66_9, fdt66_9, fdo66_9, fl66_10, fdt66_10, fdo66_10⟩
theorem tyA : type_of% (And.intro tyA0 (And.intro tyA1 (And.intro tyA2 (And.intro tyA3 (And.intro tyA4 (And.intro tyA5 (tyA6))))))) := And.intro tyA0 (And.intro tyA1 (And.intro tyA2 (And.intro tyA3 (And.intro tyA4 (And.intro tyA5 (tyA6))))))
attribute [irreducible] tt fl fd
end Go.Proofs.Ytgjdgomkcdleiaa
