import Derived.Test.YtcpipfodedfpkaaChecked
import Derived.Test.YtcpipfodedfpkaaAbD
import Derived.KernelRfl
namespace Go.Proofs.Ytcpipfodedfpkaa
open Go.Ab
set_option linter.unusedSimpArgs false
noncomputable def tt : TypeId → Option TI := ttOf Try.prog
theorem ttok : TTok Try.prog tt := ttOf_ok _
noncomputable def fl (T : TypeId) : Array Field := flOf Try.prog T
noncomputable def fd (T : TypeId) (k : Nat) : Field := (fl T).getD k default
theorem tt1 : tt 1 = some ⟨.func #[] #[] false, 1, 8, .nilFunc, false⟩ := by kernel_rfl
theorem tt2 : tt 2 = some ⟨.int .i64, 1, 8, .int .i64 0, false⟩ := by kernel_rfl
theorem tt3 : tt 3 = some ⟨.int .i64, 1, 8, .int .i64 0, false⟩ := by kernel_rfl
theorem tt4 : tt 4 = some ⟨.bool, 1, 1, .bool false, false⟩ := by kernel_rfl
theorem tt5 : tt 5 = some ⟨.int .u8, 1, 1, .int .u8 0, false⟩ := by kernel_rfl
theorem tt6 : tt 6 = some ⟨.int .u8, 1, 1, .int .u8 0, false⟩ := by kernel_rfl
theorem tt7 : tt 7 = some ⟨.struct (fl 7), 4, 24, .agg #[.int .i64 0, .int .i64 0, .bool false, .int .u8 0], false⟩ := by kernel_rfl
theorem zc7 : (Value.agg #[.int .i64 0, .int .i64 0, .bool false, .int .u8 0]).cells.toList = [.int .i64 0, .int .i64 0, .bool false, .int .u8 0] := by kernel_rfl
theorem fll7 : (fl 7).toList = [fd 7 0, fd 7 1, fd 7 2, fd 7 3] := by kernel_rfl
theorem fl7_0 : (fl 7)[0]? = some (fd 7 0) := by kernel_rfl
theorem fdt7_0 : (fd 7 0).type = 2 := by kernel_rfl
theorem fdo7_0 : (fd 7 0).offset = 0 := by kernel_rfl
theorem fl7_1 : (fl 7)[1]? = some (fd 7 1) := by kernel_rfl
theorem fdt7_1 : (fd 7 1).type = 3 := by kernel_rfl
theorem fdo7_1 : (fd 7 1).offset = 1 := by kernel_rfl
theorem fl7_2 : (fl 7)[2]? = some (fd 7 2) := by kernel_rfl
theorem fdt7_2 : (fd 7 2).type = 4 := by kernel_rfl
theorem fdo7_2 : (fd 7 2).offset = 2 := by kernel_rfl
theorem fl7_3 : (fl 7)[3]? = some (fd 7 3) := by kernel_rfl
theorem fdt7_3 : (fd 7 3).type = 6 := by kernel_rfl
theorem fdo7_3 : (fd 7 3).offset = 3 := by kernel_rfl
theorem tt8 : tt 8 = some ⟨.struct (fl 8), 4, 24, .agg #[.int .i64 0, .int .i64 0, .bool false, .int .u8 0], false⟩ := by kernel_rfl
theorem fll8 : (fl 8).toList = [fd 8 0, fd 8 1, fd 8 2, fd 8 3] := by kernel_rfl
theorem fl8_0 : (fl 8)[0]? = some (fd 8 0) := by kernel_rfl
theorem fdt8_0 : (fd 8 0).type = 2 := by kernel_rfl
theorem fdo8_0 : (fd 8 0).offset = 0 := by kernel_rfl
theorem fl8_1 : (fl 8)[1]? = some (fd 8 1) := by kernel_rfl
theorem fdt8_1 : (fd 8 1).type = 3 := by kernel_rfl
theorem fdo8_1 : (fd 8 1).offset = 1 := by kernel_rfl
theorem fl8_2 : (fl 8)[2]? = some (fd 8 2) := by kernel_rfl
theorem fdt8_2 : (fd 8 2).type = 4 := by kernel_rfl
theorem fdo8_2 : (fd 8 2).offset = 2 := by kernel_rfl
theorem fl8_3 : (fl 8)[3]? = some (fd 8 3) := by kernel_rfl
theorem fdt8_3 : (fd 8 3).type = 6 := by kernel_rfl
theorem fdo8_3 : (fd 8 3).offset = 3 := by kernel_rfl
theorem tt9 : tt 9 = some ⟨.string, 1, 16, .string ByteArray.empty, false⟩ := by kernel_rfl
theorem tt10 : tt 10 = some ⟨.string, 1, 16, .string ByteArray.empty, false⟩ := by kernel_rfl
theorem tt11 : tt 11 = some ⟨.string, 1, 16, .string ByteArray.empty, false⟩ := by kernel_rfl
theorem tt12 : tt 12 = some ⟨.int .u64, 1, 8, .int .u64 0, false⟩ := by kernel_rfl
theorem tt13 : tt 13 = some ⟨.struct (fl 13), 2, 24, .agg #[.string ByteArray.empty, .int .u64 0], false⟩ := by kernel_rfl
theorem zc13 : (Value.agg #[.string ByteArray.empty, .int .u64 0]).cells.toList = [.string ByteArray.empty, .int .u64 0] := by kernel_rfl
theorem fll13 : (fl 13).toList = [fd 13 0, fd 13 1] := by kernel_rfl
theorem fl13_0 : (fl 13)[0]? = some (fd 13 0) := by kernel_rfl
theorem fdt13_0 : (fd 13 0).type = 9 := by kernel_rfl
theorem fdo13_0 : (fd 13 0).offset = 0 := by kernel_rfl
theorem fl13_1 : (fl 13)[1]? = some (fd 13 1) := by kernel_rfl
theorem fdt13_1 : (fd 13 1).type = 12 := by kernel_rfl
theorem fdo13_1 : (fd 13 1).offset = 1 := by kernel_rfl
theorem tt14 : tt 14 = some ⟨.struct (fl 14), 2, 24, .agg #[.string ByteArray.empty, .int .u64 0], false⟩ := by kernel_rfl
theorem fll14 : (fl 14).toList = [fd 14 0, fd 14 1] := by kernel_rfl
theorem fl14_0 : (fl 14)[0]? = some (fd 14 0) := by kernel_rfl
theorem fdt14_0 : (fd 14 0).type = 9 := by kernel_rfl
theorem fdo14_0 : (fd 14 0).offset = 0 := by kernel_rfl
theorem fl14_1 : (fl 14)[1]? = some (fd 14 1) := by kernel_rfl
theorem fdt14_1 : (fd 14 1).type = 12 := by kernel_rfl
theorem fdo14_1 : (fd 14 1).offset = 1 := by kernel_rfl
theorem tt15 : tt 15 = some ⟨.pointer 154, 1, 8, .pointer none, false⟩ := by kernel_rfl
theorem tt16 : tt 16 = some ⟨.pointer 157, 1, 8, .pointer none, false⟩ := by kernel_rfl
theorem tt17 : tt 17 = some ⟨.pointer 166, 1, 8, .pointer none, false⟩ := by kernel_rfl
theorem tt18 : tt 18 = some ⟨.struct (fl 18), 1, 8, .agg #[.pointer none], false⟩ := by kernel_rfl
theorem zc18 : (Value.agg #[.pointer none]).cells.toList = [.pointer none] := by kernel_rfl
theorem fll18 : (fl 18).toList = [fd 18 0] := by kernel_rfl
theorem fl18_0 : (fl 18)[0]? = some (fd 18 0) := by kernel_rfl
theorem fdt18_0 : (fd 18 0).type = 17 := by kernel_rfl
theorem fdo18_0 : (fd 18 0).offset = 0 := by kernel_rfl
theorem tt19 : tt 19 = some ⟨.struct (fl 19), 1, 8, .agg #[.pointer none], false⟩ := by kernel_rfl
theorem fll19 : (fl 19).toList = [fd 19 0] := by kernel_rfl
theorem fl19_0 : (fl 19)[0]? = some (fd 19 0) := by kernel_rfl
theorem fdt19_0 : (fd 19 0).type = 17 := by kernel_rfl
theorem fdo19_0 : (fd 19 0).offset = 0 := by kernel_rfl
theorem tt21 : tt 21 = some ⟨.int .i32, 1, 4, .int .i32 0, false⟩ := by kernel_rfl
theorem tt22 : tt 22 = some ⟨.slice 45, 1, 24, .slice none 0 0, false⟩ := by kernel_rfl
theorem tt23 : tt 23 = some ⟨.array 2 3, 2, 16, .agg #[.int .i64 0, .int .i64 0], false⟩ := by kernel_rfl
theorem zc23 : (Value.agg #[.int .i64 0, .int .i64 0]).cells.toList = [.int .i64 0, .int .i64 0] := by kernel_rfl
theorem tt24 : tt 24 = some ⟨.slice 4, 1, 24, .slice none 0 0, false⟩ := by kernel_rfl
theorem tt25 : tt 25 = some ⟨.slice 37, 1, 24, .slice none 0 0, false⟩ := by kernel_rfl
theorem tt26 : tt 26 = some ⟨.struct (fl 26), 4, 64, .agg #[.int .i64 0, .int .i64 0, .slice none 0 0, .slice none 0 0], false⟩ := by kernel_rfl
theorem zc26 : (Value.agg #[.int .i64 0, .int .i64 0, .slice none 0 0, .slice none 0 0]).cells.toList = [.int .i64 0, .int .i64 0, .slice none 0 0, .slice none 0 0] := by kernel_rfl
theorem fll26 : (fl 26).toList = [fd 26 0, fd 26 1, fd 26 2, fd 26 3] := by kernel_rfl
theorem fl26_0 : (fl 26)[0]? = some (fd 26 0) := by kernel_rfl
theorem fdt26_0 : (fd 26 0).type = 3 := by kernel_rfl
theorem fdo26_0 : (fd 26 0).offset = 0 := by kernel_rfl
theorem fl26_1 : (fl 26)[1]? = some (fd 26 1) := by kernel_rfl
theorem fdt26_1 : (fd 26 1).type = 3 := by kernel_rfl
theorem fdo26_1 : (fd 26 1).offset = 1 := by kernel_rfl
theorem fl26_2 : (fl 26)[2]? = some (fd 26 2) := by kernel_rfl
theorem fdt26_2 : (fd 26 2).type = 24 := by kernel_rfl
theorem fdo26_2 : (fd 26 2).offset = 2 := by kernel_rfl
theorem fl26_3 : (fl 26)[3]? = some (fd 26 3) := by kernel_rfl
theorem fdt26_3 : (fd 26 3).type = 25 := by kernel_rfl
theorem fdo26_3 : (fd 26 3).offset = 3 := by kernel_rfl
theorem tt27 : tt 27 = some ⟨.struct (fl 27), 4, 64, .agg #[.int .i64 0, .int .i64 0, .slice none 0 0, .slice none 0 0], false⟩ := by kernel_rfl
theorem fll27 : (fl 27).toList = [fd 27 0, fd 27 1, fd 27 2, fd 27 3] := by kernel_rfl
theorem fl27_0 : (fl 27)[0]? = some (fd 27 0) := by kernel_rfl
theorem fdt27_0 : (fd 27 0).type = 3 := by kernel_rfl
theorem fdo27_0 : (fd 27 0).offset = 0 := by kernel_rfl
theorem fl27_1 : (fl 27)[1]? = some (fd 27 1) := by kernel_rfl
theorem fdt27_1 : (fd 27 1).type = 3 := by kernel_rfl
theorem fdo27_1 : (fd 27 1).offset = 1 := by kernel_rfl
theorem fl27_2 : (fl 27)[2]? = some (fd 27 2) := by kernel_rfl
theorem fdt27_2 : (fd 27 2).type = 24 := by kernel_rfl
theorem fdo27_2 : (fd 27 2).offset = 2 := by kernel_rfl
theorem fl27_3 : (fl 27)[3]? = some (fd 27 3) := by kernel_rfl
theorem fdt27_3 : (fd 27 3).type = 25 := by kernel_rfl
theorem fdo27_3 : (fd 27 3).offset = 3 := by kernel_rfl
theorem tt28 : tt 28 = some ⟨.func #[22, 3, 23] #[27] false, 1, 8, .nilFunc, false⟩ := by kernel_rfl
theorem tt29 : tt 29 = some ⟨.slice 40, 1, 24, .slice none 0 0, false⟩ := by kernel_rfl
theorem tt30 : tt 30 = some ⟨.struct (fl 30), 4, 64, .agg #[.int .i64 0, .int .i64 0, .slice none 0 0, .slice none 0 0], false⟩ := by kernel_rfl
theorem fll30 : (fl 30).toList = [fd 30 0, fd 30 1, fd 30 2, fd 30 3] := by kernel_rfl
theorem fl30_0 : (fl 30)[0]? = some (fd 30 0) := by kernel_rfl
theorem fdt30_0 : (fd 30 0).type = 3 := by kernel_rfl
theorem fdo30_0 : (fd 30 0).offset = 0 := by kernel_rfl
theorem fl30_1 : (fl 30)[1]? = some (fd 30 1) := by kernel_rfl
theorem fdt30_1 : (fd 30 1).type = 3 := by kernel_rfl
theorem fdo30_1 : (fd 30 1).offset = 1 := by kernel_rfl
theorem fl30_2 : (fl 30)[2]? = some (fd 30 2) := by kernel_rfl
theorem fdt30_2 : (fd 30 2).type = 24 := by kernel_rfl
theorem fdo30_2 : (fd 30 2).offset = 2 := by kernel_rfl
theorem fl30_3 : (fl 30)[3]? = some (fd 30 3) := by kernel_rfl
theorem fdt30_3 : (fd 30 3).type = 29 := by kernel_rfl
theorem fdo30_3 : (fd 30 3).offset = 3 := by kernel_rfl
theorem tt31 : tt 31 = some ⟨.struct (fl 31), 4, 64, .agg #[.int .i64 0, .int .i64 0, .slice none 0 0, .slice none 0 0], false⟩ := by kernel_rfl
theorem fll31 : (fl 31).toList = [fd 31 0, fd 31 1, fd 31 2, fd 31 3] := by kernel_rfl
theorem fl31_0 : (fl 31)[0]? = some (fd 31 0) := by kernel_rfl
theorem fdt31_0 : (fd 31 0).type = 3 := by kernel_rfl
theorem fdo31_0 : (fd 31 0).offset = 0 := by kernel_rfl
theorem fl31_1 : (fl 31)[1]? = some (fd 31 1) := by kernel_rfl
theorem fdt31_1 : (fd 31 1).type = 3 := by kernel_rfl
theorem fdo31_1 : (fd 31 1).offset = 1 := by kernel_rfl
theorem fl31_2 : (fl 31)[2]? = some (fd 31 2) := by kernel_rfl
theorem fdt31_2 : (fd 31 2).type = 24 := by kernel_rfl
theorem fdo31_2 : (fd 31 2).offset = 2 := by kernel_rfl
theorem fl31_3 : (fl 31)[3]? = some (fd 31 3) := by kernel_rfl
theorem fdt31_3 : (fd 31 3).type = 29 := by kernel_rfl
theorem fdo31_3 : (fd 31 3).offset = 3 := by kernel_rfl
theorem tt32 : tt 32 = some ⟨.int .i64, 1, 8, .int .i64 0, false⟩ := by kernel_rfl
theorem tt34 : tt 34 = some ⟨.func #[27] #[31, 32] false, 1, 8, .nilFunc, false⟩ := by kernel_rfl
theorem tt35 : tt 35 = some ⟨.struct (fl 35), 2, 16, .agg #[.int .i64 0, .int .i64 0], true⟩ := by kernel_rfl
theorem fll35 : (fl 35).toList = [fd 35 0, fd 35 1] := by kernel_rfl
theorem fl35_0 : (fl 35)[0]? = some (fd 35 0) := by kernel_rfl
theorem fdt35_0 : (fd 35 0).type = 3 := by kernel_rfl
theorem fdo35_0 : (fd 35 0).offset = 0 := by kernel_rfl
theorem fl35_1 : (fl 35)[1]? = some (fd 35 1) := by kernel_rfl
theorem fdt35_1 : (fd 35 1).type = 3 := by kernel_rfl
theorem fdo35_1 : (fd 35 1).offset = 1 := by kernel_rfl
theorem tt36 : tt 36 = some ⟨.struct (fl 36), 2, 16, .agg #[.int .i64 0, .int .i64 0], true⟩ := by kernel_rfl
theorem fll36 : (fl 36).toList = [fd 36 0, fd 36 1] := by kernel_rfl
theorem fl36_0 : (fl 36)[0]? = some (fd 36 0) := by kernel_rfl
theorem fdt36_0 : (fd 36 0).type = 3 := by kernel_rfl
theorem fdo36_0 : (fd 36 0).offset = 0 := by kernel_rfl
theorem fl36_1 : (fl 36)[1]? = some (fd 36 1) := by kernel_rfl
theorem fdt36_1 : (fd 36 1).type = 3 := by kernel_rfl
theorem fdo36_1 : (fd 36 1).offset = 1 := by kernel_rfl
theorem tt37 : tt 37 = some ⟨.slice 36, 1, 24, .slice none 0 0, false⟩ := by kernel_rfl
theorem tt38 : tt 38 = some ⟨.func #[3, 3] #[29] false, 1, 8, .nilFunc, false⟩ := by kernel_rfl
theorem tt39 : tt 39 = some ⟨.func #[27, 40] #[4] false, 1, 8, .nilFunc, false⟩ := by kernel_rfl
theorem tt40 : tt 40 = some ⟨.slice 3, 1, 24, .slice none 0 0, false⟩ := by kernel_rfl
theorem tt41 : tt 41 = some ⟨.func #[31, 3, 40] #[4] false, 1, 8, .nilFunc, false⟩ := by kernel_rfl
theorem tt42 : tt 42 = some ⟨.func #[] #[4] false, 1, 8, .nilFunc, false⟩ := by kernel_rfl
theorem tt43 : tt 43 = some ⟨.func #[31, 31] #[4] false, 1, 8, .nilFunc, false⟩ := by kernel_rfl
theorem tt44 : tt 44 = some ⟨.func #[22, 3, 23] #[4] false, 1, 8, .nilFunc, false⟩ := by kernel_rfl
theorem tt45 : tt 45 = some ⟨.array 3 3, 3, 24, .agg #[.int .i64 0, .int .i64 0, .int .i64 0], false⟩ := by kernel_rfl
theorem zc45 : (Value.agg #[.int .i64 0, .int .i64 0, .int .i64 0]).cells.toList = [.int .i64 0, .int .i64 0, .int .i64 0] := by kernel_rfl
theorem tt46 : tt 46 = some ⟨.slice 56, 1, 24, .slice none 0 0, false⟩ := by kernel_rfl
theorem tt48 : tt 48 = some ⟨.func #[22, 3, 23] #[31, 46] false, 1, 8, .nilFunc, false⟩ := by kernel_rfl
theorem tt49 : tt 49 = some ⟨.slice 59, 1, 24, .slice none 0 0, false⟩ := by kernel_rfl
theorem tt51 : tt 51 = some ⟨.func #[31, 46, 3] #[31, 49, 32] false, 1, 8, .nilFunc, false⟩ := by kernel_rfl
theorem tt52 : tt 52 = some ⟨.func #[31, 46, 3] #[27] false, 1, 8, .nilFunc, false⟩ := by kernel_rfl
theorem tt53 : tt 53 = some ⟨.func #[31] #[24] false, 1, 8, .nilFunc, false⟩ := by kernel_rfl
theorem tt54 : tt 54 = some ⟨.func #[46, 3, 40] #[40] false, 1, 8, .nilFunc, false⟩ := by kernel_rfl
theorem tt55 : tt 55 = some ⟨.struct (fl 55), 3, 24, .agg #[.int .i64 0, .int .i64 0, .int .i64 0], true⟩ := by kernel_rfl
theorem fll55 : (fl 55).toList = [fd 55 0, fd 55 1, fd 55 2] := by kernel_rfl
theorem fl55_0 : (fl 55)[0]? = some (fd 55 0) := by kernel_rfl
theorem fdt55_0 : (fd 55 0).type = 3 := by kernel_rfl
theorem fdo55_0 : (fd 55 0).offset = 0 := by kernel_rfl
theorem fl55_1 : (fl 55)[1]? = some (fd 55 1) := by kernel_rfl
theorem fdt55_1 : (fd 55 1).type = 3 := by kernel_rfl
theorem fdo55_1 : (fd 55 1).offset = 1 := by kernel_rfl
theorem fl55_2 : (fl 55)[2]? = some (fd 55 2) := by kernel_rfl
theorem fdt55_2 : (fd 55 2).type = 3 := by kernel_rfl
theorem fdo55_2 : (fd 55 2).offset = 2 := by kernel_rfl
theorem tt56 : tt 56 = some ⟨.struct (fl 56), 3, 24, .agg #[.int .i64 0, .int .i64 0, .int .i64 0], true⟩ := by kernel_rfl
theorem fll56 : (fl 56).toList = [fd 56 0, fd 56 1, fd 56 2] := by kernel_rfl
theorem fl56_0 : (fl 56)[0]? = some (fd 56 0) := by kernel_rfl
theorem fdt56_0 : (fd 56 0).type = 3 := by kernel_rfl
theorem fdo56_0 : (fd 56 0).offset = 0 := by kernel_rfl
theorem fl56_1 : (fl 56)[1]? = some (fd 56 1) := by kernel_rfl
theorem fdt56_1 : (fd 56 1).type = 3 := by kernel_rfl
theorem fdo56_1 : (fd 56 1).offset = 1 := by kernel_rfl
theorem fl56_2 : (fl 56)[2]? = some (fd 56 2) := by kernel_rfl
theorem fdt56_2 : (fd 56 2).type = 3 := by kernel_rfl
theorem fdo56_2 : (fd 56 2).offset = 2 := by kernel_rfl
theorem tt57 : tt 57 = some ⟨.func #[22, 3, 45] #[4] false, 1, 8, .nilFunc, false⟩ := by kernel_rfl
theorem tt58 : tt 58 = some ⟨.struct (fl 58), 2, 16, .agg #[.int .i64 0, .int .i64 0], true⟩ := by kernel_rfl
theorem fll58 : (fl 58).toList = [fd 58 0, fd 58 1] := by kernel_rfl
theorem fl58_0 : (fl 58)[0]? = some (fd 58 0) := by kernel_rfl
theorem fdt58_0 : (fd 58 0).type = 3 := by kernel_rfl
theorem fdo58_0 : (fd 58 0).offset = 0 := by kernel_rfl
theorem fl58_1 : (fl 58)[1]? = some (fd 58 1) := by kernel_rfl
theorem fdt58_1 : (fd 58 1).type = 3 := by kernel_rfl
theorem fdo58_1 : (fd 58 1).offset = 1 := by kernel_rfl
theorem tt59 : tt 59 = some ⟨.struct (fl 59), 2, 16, .agg #[.int .i64 0, .int .i64 0], true⟩ := by kernel_rfl
theorem fll59 : (fl 59).toList = [fd 59 0, fd 59 1] := by kernel_rfl
theorem fl59_0 : (fl 59)[0]? = some (fd 59 0) := by kernel_rfl
theorem fdt59_0 : (fd 59 0).type = 3 := by kernel_rfl
theorem fdo59_0 : (fd 59 0).offset = 0 := by kernel_rfl
theorem fl59_1 : (fl 59)[1]? = some (fd 59 1) := by kernel_rfl
theorem fdt59_1 : (fd 59 1).type = 3 := by kernel_rfl
theorem fdo59_1 : (fd 59 1).offset = 1 := by kernel_rfl
theorem tt60 : tt 60 = some ⟨.int .u64, 1, 8, .int .u64 0, false⟩ := by kernel_rfl
theorem tt61 : tt 61 = some ⟨.slice 65, 1, 24, .slice none 0 0, false⟩ := by kernel_rfl
theorem tt63 : tt 63 = some ⟨.func #[31, 46] #[61, 4] false, 1, 8, .nilFunc, false⟩ := by kernel_rfl
theorem tt64 : tt 64 = some ⟨.struct (fl 64), 6, 96, .agg #[.int .i64 0, .slice none 0 0, .int .i64 0, .int .i64 0, .slice none 0 0, .slice none 0 0], false⟩ := by kernel_rfl
theorem zc64 : (Value.agg #[.int .i64 0, .slice none 0 0, .int .i64 0, .int .i64 0, .slice none 0 0, .slice none 0 0]).cells.toList = [.int .i64 0, .slice none 0 0, .int .i64 0, .int .i64 0, .slice none 0 0, .slice none 0 0] := by kernel_rfl
theorem fll64 : (fl 64).toList = [fd 64 0, fd 64 1, fd 64 2] := by kernel_rfl
theorem fl64_0 : (fl 64)[0]? = some (fd 64 0) := by kernel_rfl
theorem fdt64_0 : (fd 64 0).type = 3 := by kernel_rfl
theorem fdo64_0 : (fd 64 0).offset = 0 := by kernel_rfl
theorem fl64_1 : (fl 64)[1]? = some (fd 64 1) := by kernel_rfl
theorem fdt64_1 : (fd 64 1).type = 49 := by kernel_rfl
theorem fdo64_1 : (fd 64 1).offset = 1 := by kernel_rfl
theorem fl64_2 : (fl 64)[2]? = some (fd 64 2) := by kernel_rfl
theorem fdt64_2 : (fd 64 2).type = 31 := by kernel_rfl
theorem fdo64_2 : (fd 64 2).offset = 2 := by kernel_rfl
theorem tt65 : tt 65 = some ⟨.struct (fl 65), 6, 96, .agg #[.int .i64 0, .slice none 0 0, .int .i64 0, .int .i64 0, .slice none 0 0, .slice none 0 0], false⟩ := by kernel_rfl
theorem fll65 : (fl 65).toList = [fd 65 0, fd 65 1, fd 65 2] := by kernel_rfl
theorem fl65_0 : (fl 65)[0]? = some (fd 65 0) := by kernel_rfl
theorem fdt65_0 : (fd 65 0).type = 3 := by kernel_rfl
theorem fdo65_0 : (fd 65 0).offset = 0 := by kernel_rfl
theorem fl65_1 : (fl 65)[1]? = some (fd 65 1) := by kernel_rfl
theorem fdt65_1 : (fd 65 1).type = 49 := by kernel_rfl
theorem fdo65_1 : (fd 65 1).offset = 1 := by kernel_rfl
theorem fl65_2 : (fl 65)[2]? = some (fd 65 2) := by kernel_rfl
theorem fdt65_2 : (fd 65 2).type = 31 := by kernel_rfl
theorem fdo65_2 : (fd 65 2).offset = 2 := by kernel_rfl
theorem tt66 : tt 66 = some ⟨.func #[65, 3] #[40] false, 1, 8, .nilFunc, false⟩ := by kernel_rfl
theorem tt67 : tt 67 = some ⟨.func #[65, 59] #[3] false, 1, 8, .nilFunc, false⟩ := by kernel_rfl
theorem tt68 : tt 68 = some ⟨.func #[65, 3, 59] #[3] false, 1, 8, .nilFunc, false⟩ := by kernel_rfl
theorem tt69 : tt 69 = some ⟨.func #[65, 3] #[4] false, 1, 8, .nilFunc, false⟩ := by kernel_rfl
theorem tt70 : tt 70 = some ⟨.func #[22, 45, 59] #[4] false, 1, 8, .nilFunc, false⟩ := by kernel_rfl
theorem tt72 : tt 72 = some ⟨.func #[31, 46, 3] #[61, 32] false, 1, 8, .nilFunc, false⟩ := by kernel_rfl
theorem tt73 : tt 73 = some ⟨.func #[65, 65] #[4] false, 1, 8, .nilFunc, false⟩ := by kernel_rfl
theorem tt74 : tt 74 = some ⟨.func #[65, 46] #[4] false, 1, 8, .nilFunc, false⟩ := by kernel_rfl
theorem tt75 : tt 75 = some ⟨.func #[61, 46] #[31, 32] false, 1, 8, .nilFunc, false⟩ := by kernel_rfl
theorem tt76 : tt 76 = some ⟨.func #[40, 40] #[4] false, 1, 8, .nilFunc, false⟩ := by kernel_rfl
theorem tt77 : tt 77 = some ⟨.func #[61] #[40] false, 1, 8, .nilFunc, false⟩ := by kernel_rfl
theorem tt78 : tt 78 = some ⟨.func #[61, 40] #[4] false, 1, 8, .nilFunc, false⟩ := by kernel_rfl
theorem tt79 : tt 79 = some ⟨.func #[61, 46, 40, 3] #[40] false, 1, 8, .nilFunc, false⟩ := by kernel_rfl
theorem tt81 : tt 81 = some ⟨.func #[61, 46, 40, 3] #[40, 4] false, 1, 8, .nilFunc, false⟩ := by kernel_rfl
theorem tt82 : tt 82 = some ⟨.func #[61, 46] #[4] false, 1, 8, .nilFunc, false⟩ := by kernel_rfl
theorem tt83 : tt 83 = some ⟨.func #[61, 46, 40] #[4] false, 1, 8, .nilFunc, false⟩ := by kernel_rfl
theorem tt84 : tt 84 = some ⟨.func #[22, 45, 40] #[4] false, 1, 8, .nilFunc, false⟩ := by kernel_rfl
theorem tt85 : tt 85 = some ⟨.func #[31, 61, 46, 29] #[4] false, 1, 8, .nilFunc, false⟩ := by kernel_rfl
theorem tt86 : tt 86 = some ⟨.func #[31] #[31, 32] false, 1, 8, .nilFunc, false⟩ := by kernel_rfl
theorem tt87 : tt 87 = some ⟨.func #[27, 40] #[40] false, 1, 8, .nilFunc, false⟩ := by kernel_rfl
theorem tt88 : tt 88 = some ⟨.func #[27, 40, 3] #[40] false, 1, 8, .nilFunc, false⟩ := by kernel_rfl
theorem tt89 : tt 89 = some ⟨.func #[31, 3, 40] #[3] false, 1, 8, .nilFunc, false⟩ := by kernel_rfl
theorem tt90 : tt 90 = some ⟨.func #[24, 24] #[4] false, 1, 8, .nilFunc, false⟩ := by kernel_rfl
theorem tt91 : tt 91 = some ⟨.func #[29, 29, 76] #[4] false, 1, 8, .nilFunc, false⟩ := by kernel_rfl
theorem tt92 : tt 92 = some ⟨.func #[22, 3, 23] #[31] false, 1, 8, .nilFunc, false⟩ := by kernel_rfl
theorem tt93 : tt 93 = some ⟨.func #[3] #[46] false, 1, 8, .nilFunc, false⟩ := by kernel_rfl
theorem tt94 : tt 94 = some ⟨.func #[31] #[4] false, 1, 8, .nilFunc, false⟩ := by kernel_rfl
theorem tt95 : tt 95 = some ⟨.func #[46, 3] #[49] false, 1, 8, .nilFunc, false⟩ := by kernel_rfl
theorem tt96 : tt 96 = some ⟨.func #[31] #[27] false, 1, 8, .nilFunc, false⟩ := by kernel_rfl
theorem tt97 : tt 97 = some ⟨.func #[49, 98] #[3] false, 1, 8, .nilFunc, false⟩ := by kernel_rfl
theorem tt98 : tt 98 = some ⟨.func #[59] #[4] false, 1, 8, .nilFunc, false⟩ := by kernel_rfl
theorem tt99 : tt 99 = some ⟨.func #[56, 3] #[4] false, 1, 8, .nilFunc, false⟩ := by kernel_rfl
theorem tt100 : tt 100 = some ⟨.func #[65, 3, 3] #[4] false, 1, 8, .nilFunc, false⟩ := by kernel_rfl
theorem tt101 : tt 101 = some ⟨.func #[31, 3, 3] #[3] false, 1, 8, .nilFunc, false⟩ := by kernel_rfl
theorem tt102 : tt 102 = some ⟨.func #[49, 49] #[4] false, 1, 8, .nilFunc, false⟩ := by kernel_rfl
theorem tt103 : tt 103 = some ⟨.func #[29, 104] #[3] false, 1, 8, .nilFunc, false⟩ := by kernel_rfl
theorem tt104 : tt 104 = some ⟨.func #[40] #[4] false, 1, 8, .nilFunc, false⟩ := by kernel_rfl
theorem tt105 : tt 105 = some ⟨.func #[40] #[40] false, 1, 8, .nilFunc, false⟩ := by kernel_rfl
theorem tt106 : tt 106 = some ⟨.func #[29, 104] #[4] false, 1, 8, .nilFunc, false⟩ := by kernel_rfl
theorem tt107 : tt 107 = some ⟨.func #[31, 40] #[4] false, 1, 8, .nilFunc, false⟩ := by kernel_rfl
theorem tt108 : tt 108 = some ⟨.func #[27] #[4] false, 1, 8, .nilFunc, false⟩ := by kernel_rfl
theorem tt109 : tt 109 = some ⟨.func #[40] #[9] false, 1, 8, .nilFunc, false⟩ := by kernel_rfl
theorem tt112 : tt 112 = some ⟨.func #[31] #[40] false, 1, 8, .nilFunc, false⟩ := by kernel_rfl
theorem tt114 : tt 114 = some ⟨.func #[40, 3] #[4] false, 1, 8, .nilFunc, false⟩ := by kernel_rfl
theorem tt115 : tt 115 = some ⟨.func #[40, 116] #[4] false, 1, 8, .nilFunc, false⟩ := by kernel_rfl
theorem tt116 : tt 116 = some ⟨.func #[3] #[4] false, 1, 8, .nilFunc, false⟩ := by kernel_rfl
theorem tt117 : tt 117 = some ⟨.func #[24] #[24] false, 1, 8, .nilFunc, false⟩ := by kernel_rfl
theorem tt118 : tt 118 = some ⟨.func #[31, 40] #[3] false, 1, 8, .nilFunc, false⟩ := by kernel_rfl
theorem tt119 : tt 119 = some ⟨.func #[25, 122] #[4] false, 1, 8, .nilFunc, false⟩ := by kernel_rfl
theorem tt120 : tt 120 = some ⟨.func #[37, 121] #[4] false, 1, 8, .nilFunc, false⟩ := by kernel_rfl
theorem tt121 : tt 121 = some ⟨.func #[36] #[4] false, 1, 8, .nilFunc, false⟩ := by kernel_rfl
theorem tt122 : tt 122 = some ⟨.func #[37] #[4] false, 1, 8, .nilFunc, false⟩ := by kernel_rfl
theorem tt123 : tt 123 = some ⟨.func #[40] #[] false, 1, 8, .nilFunc, false⟩ := by kernel_rfl
theorem tt124 : tt 124 = some ⟨.slice 5, 1, 24, .slice none 0 0, false⟩ := by kernel_rfl
theorem tt125 : tt 125 = some ⟨.func #[31, 40, 24, 3] #[9] false, 1, 8, .nilFunc, false⟩ := by kernel_rfl
theorem tt126 : tt 126 = some ⟨.func #[40, 116] #[3] false, 1, 8, .nilFunc, false⟩ := by kernel_rfl
theorem tt127 : tt 127 = some ⟨.func #[25, 122] #[3] false, 1, 8, .nilFunc, false⟩ := by kernel_rfl
theorem tt128 : tt 128 = some ⟨.func #[37, 121] #[3] false, 1, 8, .nilFunc, false⟩ := by kernel_rfl
theorem tt129 : tt 129 = some ⟨.func #[40, 3, 3, 3] #[] false, 1, 8, .nilFunc, false⟩ := by kernel_rfl
theorem tt130 : tt 130 = some ⟨.func #[60] #[3] false, 1, 8, .nilFunc, false⟩ := by kernel_rfl
theorem tt131 : tt 131 = some ⟨.func #[40, 3, 3] #[] false, 1, 8, .nilFunc, false⟩ := by kernel_rfl
theorem tt132 : tt 132 = some ⟨.int .i64, 1, 8, .int .i64 0, false⟩ := by kernel_rfl
theorem tt134 : tt 134 = some ⟨.func #[40, 3, 3] #[3, 132] false, 1, 8, .nilFunc, false⟩ := by kernel_rfl
theorem tt135 : tt 135 = some ⟨.func #[40, 3, 3] #[4] false, 1, 8, .nilFunc, false⟩ := by kernel_rfl
theorem tt136 : tt 136 = some ⟨.func #[3, 3] #[4] false, 1, 8, .nilFunc, false⟩ := by kernel_rfl
theorem tt137 : tt 137 = some ⟨.func #[40, 3, 3, 3] #[3] false, 1, 8, .nilFunc, false⟩ := by kernel_rfl
theorem tt138 : tt 138 = some ⟨.func #[40, 3, 3, 3] #[3, 4] false, 1, 8, .nilFunc, false⟩ := by kernel_rfl
theorem tt139 : tt 139 = some ⟨.func #[140] #[3] false, 1, 8, .nilFunc, false⟩ := by kernel_rfl
theorem tt140 : tt 140 = some ⟨.int .u32, 1, 4, .int .u32 0, false⟩ := by kernel_rfl
theorem tt141 : tt 141 = some ⟨.func #[142] #[3] false, 1, 8, .nilFunc, false⟩ := by kernel_rfl
theorem tt142 : tt 142 = some ⟨.int .u64, 1, 8, .int .u64 0, false⟩ := by kernel_rfl
theorem tt143 : tt 143 = some ⟨.int .u64, 1, 8, .int .u64 0, false⟩ := by kernel_rfl
theorem tt144 : tt 144 = some ⟨.func #[3] #[60] false, 1, 8, .nilFunc, false⟩ := by kernel_rfl
theorem tt145 : tt 145 = some ⟨.func #[] #[142] false, 1, 8, .nilFunc, false⟩ := by kernel_rfl
theorem tt146 : tt 146 = some ⟨.func #[40, 3, 147] #[3] false, 1, 8, .nilFunc, false⟩ := by kernel_rfl
theorem tt147 : tt 147 = some ⟨.pointer 3, 1, 8, .pointer none, false⟩ := by kernel_rfl
theorem tt148 : tt 148 = some ⟨.func #[40, 3, 3, 3, 147] #[3] false, 1, 8, .nilFunc, false⟩ := by kernel_rfl
theorem tt149 : tt 149 = some ⟨.pointer 143, 1, 8, .pointer none, false⟩ := by kernel_rfl
theorem tt151 : tt 151 = some ⟨.func #[40, 3, 3, 147] #[3, 3] false, 1, 8, .nilFunc, false⟩ := by kernel_rfl
theorem tt152 : tt 152 = some ⟨.func #[] #[9] false, 1, 8, .nilFunc, false⟩ := by kernel_rfl
theorem tt153 : tt 153 = some ⟨.struct (fl 153), 4, 40, .agg #[.pointer none, .pointer none, .pointer none, .string ByteArray.empty], false⟩ := by kernel_rfl
theorem zc153 : (Value.agg #[.pointer none, .pointer none, .pointer none, .string ByteArray.empty]).cells.toList = [.pointer none, .pointer none, .pointer none, .string ByteArray.empty] := by kernel_rfl
theorem fll153 : (fl 153).toList = [fd 153 0, fd 153 1, fd 153 2, fd 153 3] := by kernel_rfl
theorem fl153_0 : (fl 153)[0]? = some (fd 153 0) := by kernel_rfl
theorem fdt153_0 : (fd 153 0).type = 17 := by kernel_rfl
theorem fdo153_0 : (fd 153 0).offset = 0 := by kernel_rfl
theorem fl153_1 : (fl 153)[1]? = some (fd 153 1) := by kernel_rfl
theorem fdt153_1 : (fd 153 1).type = 17 := by kernel_rfl
theorem fdo153_1 : (fd 153 1).offset = 1 := by kernel_rfl
theorem fl153_2 : (fl 153)[2]? = some (fd 153 2) := by kernel_rfl
theorem fdt153_2 : (fd 153 2).type = 17 := by kernel_rfl
theorem fdo153_2 : (fd 153 2).offset = 2 := by kernel_rfl
theorem fl153_3 : (fl 153)[3]? = some (fd 153 3) := by kernel_rfl
theorem fdt153_3 : (fd 153 3).type = 9 := by kernel_rfl
theorem fdo153_3 : (fd 153 3).offset = 3 := by kernel_rfl
theorem tt154 : tt 154 = some ⟨.struct (fl 154), 4, 40, .agg #[.pointer none, .pointer none, .pointer none, .string ByteArray.empty], false⟩ := by kernel_rfl
theorem fll154 : (fl 154).toList = [fd 154 0, fd 154 1, fd 154 2, fd 154 3] := by kernel_rfl
theorem fl154_0 : (fl 154)[0]? = some (fd 154 0) := by kernel_rfl
theorem fdt154_0 : (fd 154 0).type = 17 := by kernel_rfl
theorem fdo154_0 : (fd 154 0).offset = 0 := by kernel_rfl
theorem fl154_1 : (fl 154)[1]? = some (fd 154 1) := by kernel_rfl
theorem fdt154_1 : (fd 154 1).type = 17 := by kernel_rfl
theorem fdo154_1 : (fd 154 1).offset = 1 := by kernel_rfl
theorem fl154_2 : (fl 154)[2]? = some (fd 154 2) := by kernel_rfl
theorem fdt154_2 : (fd 154 2).type = 17 := by kernel_rfl
theorem fdo154_2 : (fd 154 2).offset = 2 := by kernel_rfl
theorem fl154_3 : (fl 154)[3]? = some (fd 154 3) := by kernel_rfl
theorem fdt154_3 : (fd 154 3).type = 9 := by kernel_rfl
theorem fdo154_3 : (fd 154 3).offset = 3 := by kernel_rfl
theorem tt158 : tt 158 = some ⟨.func #[] #[3] false, 1, 8, .nilFunc, false⟩ := by kernel_rfl
theorem tt159 : tt 159 = some ⟨.int .u8, 1, 1, .int .u8 0, false⟩ := by kernel_rfl
theorem tt160 : tt 160 = some ⟨.int .u8, 1, 1, .int .u8 0, false⟩ := by kernel_rfl
theorem tt161 : tt 161 = some ⟨.func #[167, 167] #[4] false, 1, 8, .nilFunc, false⟩ := by kernel_rfl
theorem tt162 : tt 162 = some ⟨.pointer 5, 1, 8, .pointer none, false⟩ := by kernel_rfl
theorem tt163 : tt 163 = some ⟨.int .i32, 1, 4, .int .i32 0, false⟩ := by kernel_rfl
theorem tt164 : tt 164 = some ⟨.int .i32, 1, 4, .int .i32 0, false⟩ := by kernel_rfl
theorem tt165 : tt 165 = some ⟨.struct (fl 165), 11, 48, .agg #[.int .u64 0, .int .u64 0, .int .u32 0, .int .u8 0, .int .u8 0, .int .u8 0, .int .u8 0, .nilFunc, .pointer none, .int .i32 0, .int .i32 0], false⟩ := by kernel_rfl
theorem zc165 : (Value.agg #[.int .u64 0, .int .u64 0, .int .u32 0, .int .u8 0, .int .u8 0, .int .u8 0, .int .u8 0, .nilFunc, .pointer none, .int .i32 0, .int .i32 0]).cells.toList = [.int .u64 0, .int .u64 0, .int .u32 0, .int .u8 0, .int .u8 0, .int .u8 0, .int .u8 0, .nilFunc, .pointer none, .int .i32 0, .int .i32 0] := by kernel_rfl
theorem fll165 : (fl 165).toList = [fd 165 0, fd 165 1, fd 165 2, fd 165 3, fd 165 4, fd 165 5, fd 165 6, fd 165 7, fd 165 8, fd 165 9, fd 165 10] := by kernel_rfl
theorem fl165_0 : (fl 165)[0]? = some (fd 165 0) := by kernel_rfl
theorem fdt165_0 : (fd 165 0).type = 12 := by kernel_rfl
theorem fdo165_0 : (fd 165 0).offset = 0 := by kernel_rfl
theorem fl165_1 : (fl 165)[1]? = some (fd 165 1) := by kernel_rfl
theorem fdt165_1 : (fd 165 1).type = 12 := by kernel_rfl
theorem fdo165_1 : (fd 165 1).offset = 1 := by kernel_rfl
theorem fl165_2 : (fl 165)[2]? = some (fd 165 2) := by kernel_rfl
theorem fdt165_2 : (fd 165 2).type = 140 := by kernel_rfl
theorem fdo165_2 : (fd 165 2).offset = 2 := by kernel_rfl
theorem fl165_3 : (fl 165)[3]? = some (fd 165 3) := by kernel_rfl
theorem fdt165_3 : (fd 165 3).type = 159 := by kernel_rfl
theorem fdo165_3 : (fd 165 3).offset = 3 := by kernel_rfl
theorem fl165_4 : (fl 165)[4]? = some (fd 165 4) := by kernel_rfl
theorem fdt165_4 : (fd 165 4).type = 5 := by kernel_rfl
theorem fdo165_4 : (fd 165 4).offset = 4 := by kernel_rfl
theorem fl165_5 : (fl 165)[5]? = some (fd 165 5) := by kernel_rfl
theorem fdt165_5 : (fd 165 5).type = 5 := by kernel_rfl
theorem fdo165_5 : (fd 165 5).offset = 5 := by kernel_rfl
theorem fl165_6 : (fl 165)[6]? = some (fd 165 6) := by kernel_rfl
theorem fdt165_6 : (fd 165 6).type = 160 := by kernel_rfl
theorem fdo165_6 : (fd 165 6).offset = 6 := by kernel_rfl
theorem fl165_7 : (fl 165)[7]? = some (fd 165 7) := by kernel_rfl
theorem fdt165_7 : (fd 165 7).type = 161 := by kernel_rfl
theorem fdo165_7 : (fd 165 7).offset = 7 := by kernel_rfl
theorem fl165_8 : (fl 165)[8]? = some (fd 165 8) := by kernel_rfl
theorem fdt165_8 : (fd 165 8).type = 162 := by kernel_rfl
theorem fdo165_8 : (fd 165 8).offset = 8 := by kernel_rfl
theorem fl165_9 : (fl 165)[9]? = some (fd 165 9) := by kernel_rfl
theorem fdt165_9 : (fd 165 9).type = 163 := by kernel_rfl
theorem fdo165_9 : (fd 165 9).offset = 9 := by kernel_rfl
theorem fl165_10 : (fl 165)[10]? = some (fd 165 10) := by kernel_rfl
theorem fdt165_10 : (fd 165 10).type = 164 := by kernel_rfl
theorem fdo165_10 : (fd 165 10).offset = 10 := by kernel_rfl
theorem tt166 : tt 166 = some ⟨.struct (fl 166), 11, 48, .agg #[.int .u64 0, .int .u64 0, .int .u32 0, .int .u8 0, .int .u8 0, .int .u8 0, .int .u8 0, .nilFunc, .pointer none, .int .i32 0, .int .i32 0], false⟩ := by kernel_rfl
theorem fll166 : (fl 166).toList = [fd 166 0, fd 166 1, fd 166 2, fd 166 3, fd 166 4, fd 166 5, fd 166 6, fd 166 7, fd 166 8, fd 166 9, fd 166 10] := by kernel_rfl
theorem fl166_0 : (fl 166)[0]? = some (fd 166 0) := by kernel_rfl
theorem fdt166_0 : (fd 166 0).type = 12 := by kernel_rfl
theorem fdo166_0 : (fd 166 0).offset = 0 := by kernel_rfl
theorem fl166_1 : (fl 166)[1]? = some (fd 166 1) := by kernel_rfl
theorem fdt166_1 : (fd 166 1).type = 12 := by kernel_rfl
theorem fdo166_1 : (fd 166 1).offset = 1 := by kernel_rfl
theorem fl166_2 : (fl 166)[2]? = some (fd 166 2) := by kernel_rfl
theorem fdt166_2 : (fd 166 2).type = 140 := by kernel_rfl
theorem fdo166_2 : (fd 166 2).offset = 2 := by kernel_rfl
theorem fl166_3 : (fl 166)[3]? = some (fd 166 3) := by kernel_rfl
theorem fdt166_3 : (fd 166 3).type = 159 := by kernel_rfl
theorem fdo166_3 : (fd 166 3).offset = 3 := by kernel_rfl
theorem fl166_4 : (fl 166)[4]? = some (fd 166 4) := by kernel_rfl
theorem fdt166_4 : (fd 166 4).type = 5 := by kernel_rfl
theorem fdo166_4 : (fd 166 4).offset = 4 := by kernel_rfl
theorem fl166_5 : (fl 166)[5]? = some (fd 166 5) := by kernel_rfl
theorem fdt166_5 : (fd 166 5).type = 5 := by kernel_rfl
theorem fdo166_5 : (fd 166 5).offset = 5 := by kernel_rfl
theorem fl166_6 : (fl 166)[6]? = some (fd 166 6) := by kernel_rfl
theorem fdt166_6 : (fd 166 6).type = 160 := by kernel_rfl
theorem fdo166_6 : (fd 166 6).offset = 6 := by kernel_rfl
theorem fl166_7 : (fl 166)[7]? = some (fd 166 7) := by kernel_rfl
theorem fdt166_7 : (fd 166 7).type = 161 := by kernel_rfl
theorem fdo166_7 : (fd 166 7).offset = 7 := by kernel_rfl
theorem fl166_8 : (fl 166)[8]? = some (fd 166 8) := by kernel_rfl
theorem fdt166_8 : (fd 166 8).type = 162 := by kernel_rfl
theorem fdo166_8 : (fd 166 8).offset = 8 := by kernel_rfl
theorem fl166_9 : (fl 166)[9]? = some (fd 166 9) := by kernel_rfl
theorem fdt166_9 : (fd 166 9).type = 163 := by kernel_rfl
theorem fdo166_9 : (fd 166 9).offset = 9 := by kernel_rfl
theorem fl166_10 : (fl 166)[10]? = some (fd 166 10) := by kernel_rfl
theorem fdt166_10 : (fd 166 10).type = 164 := by kernel_rfl
theorem fdo166_10 : (fd 166 10).offset = 10 := by kernel_rfl
theorem fnok10 : FnOk Try.prog 10 := ⟨_, Try.func10, by kernel_rfl, by kernel_rfl⟩
theorem fnok11 : FnOk Try.prog 11 := ⟨_, Try.func11, by kernel_rfl, by kernel_rfl⟩
theorem fnok12 : FnOk Try.prog 12 := ⟨_, Try.func12, by kernel_rfl, by kernel_rfl⟩
theorem fnok13 : FnOk Try.prog 13 := ⟨_, Try.func13, by kernel_rfl, by kernel_rfl⟩
theorem fnok14 : FnOk Try.prog 14 := ⟨_, Try.func14, by kernel_rfl, by kernel_rfl⟩
theorem fnok15 : FnOk Try.prog 15 := ⟨_, Try.func15, by kernel_rfl, by kernel_rfl⟩
theorem fnok16 : FnOk Try.prog 16 := ⟨_, Try.func16, by kernel_rfl, by kernel_rfl⟩
theorem fnok42 : FnOk Try.prog 42 := ⟨_, Try.func42, by kernel_rfl, by kernel_rfl⟩
theorem fnok43 : FnOk Try.prog 43 := ⟨_, Try.func43, by kernel_rfl, by kernel_rfl⟩
theorem fnok44 : FnOk Try.prog 44 := ⟨_, Try.func44, by kernel_rfl, by kernel_rfl⟩
theorem fnok45 : FnOk Try.prog 45 := ⟨_, Try.func45, by kernel_rfl, by kernel_rfl⟩
theorem fnok46 : FnOk Try.prog 46 := ⟨_, Try.func46, by kernel_rfl, by kernel_rfl⟩
theorem fnok47 : FnOk Try.prog 47 := ⟨_, Try.func47, by kernel_rfl, by kernel_rfl⟩
theorem fnok48 : FnOk Try.prog 48 := ⟨_, Try.func48, by kernel_rfl, by kernel_rfl⟩
theorem fnok49 : FnOk Try.prog 49 := ⟨_, Try.func49, by kernel_rfl, by kernel_rfl⟩
theorem fnok50 : FnOk Try.prog 50 := ⟨_, Try.func50, by kernel_rfl, by kernel_rfl⟩
theorem fnok53 : FnOk Try.prog 53 := ⟨_, Try.func53, by kernel_rfl, by kernel_rfl⟩
theorem fnok64 : FnOk Try.prog 64 := ⟨_, Try.func64, by kernel_rfl, by kernel_rfl⟩
theorem fnok66 : FnOk Try.prog 66 := ⟨_, Try.func66, by kernel_rfl, by kernel_rfl⟩
theorem fnok67 : FnOk Try.prog 67 := ⟨_, Try.func67, by kernel_rfl, by kernel_rfl⟩
theorem fnok70 : FnOk Try.prog 70 := ⟨_, Try.func70, by kernel_rfl, by kernel_rfl⟩
theorem fnok71 : FnOk Try.prog 71 := ⟨_, Try.func71, by kernel_rfl, by kernel_rfl⟩
theorem fnok72 : FnOk Try.prog 72 := ⟨_, Try.func72, by kernel_rfl, by kernel_rfl⟩
theorem fnok73 : FnOk Try.prog 73 := ⟨_, Try.func73, by kernel_rfl, by kernel_rfl⟩
theorem fnok74 : FnOk Try.prog 74 := ⟨_, Try.func74, by kernel_rfl, by kernel_rfl⟩
theorem fnok75 : FnOk Try.prog 75 := ⟨_, Try.func75, by kernel_rfl, by kernel_rfl⟩
theorem fnok76 : FnOk Try.prog 76 := ⟨_, Try.func76, by kernel_rfl, by kernel_rfl⟩
theorem fnok77 : FnOk Try.prog 77 := ⟨_, Try.func77, by kernel_rfl, by kernel_rfl⟩
theorem fnok78 : FnOk Try.prog 78 := ⟨_, Try.func78, by kernel_rfl, by kernel_rfl⟩
theorem fnok79 : FnOk Try.prog 79 := ⟨_, Try.func79, by kernel_rfl, by kernel_rfl⟩
theorem fnok80 : FnOk Try.prog 80 := ⟨_, Try.func80, by kernel_rfl, by kernel_rfl⟩
theorem fnok81 : FnOk Try.prog 81 := ⟨_, Try.func81, by kernel_rfl, by kernel_rfl⟩
theorem fnok83 : FnOk Try.prog 83 := ⟨_, Try.func83, by kernel_rfl, by kernel_rfl⟩
theorem fnok84 : FnOk Try.prog 84 := ⟨_, Try.func84, by kernel_rfl, by kernel_rfl⟩
theorem fnok85 : FnOk Try.prog 85 := ⟨_, Try.func85, by kernel_rfl, by kernel_rfl⟩
theorem fnok86 : FnOk Try.prog 86 := ⟨_, Try.func86, by kernel_rfl, by kernel_rfl⟩
theorem fnok87 : FnOk Try.prog 87 := ⟨_, Try.func87, by kernel_rfl, by kernel_rfl⟩
theorem fnok88 : FnOk Try.prog 88 := ⟨_, Try.func88, by kernel_rfl, by kernel_rfl⟩
theorem fnok89 : FnOk Try.prog 89 := ⟨_, Try.func89, by kernel_rfl, by kernel_rfl⟩
theorem fnok90 : FnOk Try.prog 90 := ⟨_, Try.func90, by kernel_rfl, by kernel_rfl⟩
theorem fnok91 : FnOk Try.prog 91 := ⟨_, Try.func91, by kernel_rfl, by kernel_rfl⟩
theorem fnok92 : FnOk Try.prog 92 := ⟨_, Try.func92, by kernel_rfl, by kernel_rfl⟩
theorem fnok93 : FnOk Try.prog 93 := ⟨_, Try.func93, by kernel_rfl, by kernel_rfl⟩
theorem fnok94 : FnOk Try.prog 94 := ⟨_, Try.func94, by kernel_rfl, by kernel_rfl⟩
theorem fnok97 : FnOk Try.prog 97 := ⟨_, Try.func97, by kernel_rfl, by kernel_rfl⟩
theorem tyA0 : (tt 1 = some ⟨.func #[] #[] false, 1, 8, .nilFunc, false⟩) ∧ (tt 2 = some ⟨.int .i64, 1, 8, .int .i64 0, false⟩) ∧ (tt 3 = some ⟨.int .i64, 1, 8, .int .i64 0, false⟩) ∧ (tt 4 = some ⟨.bool, 1, 1, .bool false, false⟩) ∧ (tt 5 = some ⟨.int .u8, 1, 1, .int .u8 0, false⟩) ∧ (tt 6 = some ⟨.int .u8, 1, 1, .int .u8 0, false⟩) ∧ (tt 7 = some ⟨.struct (fl 7), 4, 24, .agg #[.int .i64 0, .int .i64 0, .bool false, .int .u8 0], false⟩) ∧ ((Value.agg #[.int .i64 0, .int .i64 0, .bool false, .int .u8 0]).cells.toList = [.int .i64 0, .int .i64 0, .bool false, .int .u8 0]) ∧ ((fl 7).toList = [fd 7 0, fd 7 1, fd 7 2, fd 7 3]) ∧ ((fl 7)[0]? = some (fd 7 0)) ∧ ((fd 7 0).type = 2) ∧ ((fd 7 0).offset = 0) ∧ ((fl 7)[1]? = some (fd 7 1)) ∧ ((fd 7 1).type = 3) ∧ ((fd 7 1).offset = 1) ∧ ((fl 7)[2]? = some (fd 7 2)) ∧ ((fd 7 2).type = 4) ∧ ((fd 7 2).offset = 2) ∧ ((fl 7)[3]? = some (fd 7 3)) ∧ ((fd 7 3).type = 6) ∧ ((fd 7 3).offset = 3) ∧ (tt 8 = some ⟨.struct (fl 8), 4, 24, .agg #[.int .i64 0, .int .i64 0, .bool false, .int .u8 0], false⟩) ∧ ((fl 8).toList = [fd 8 0, fd 8 1, fd 8 2, fd 8 3]) ∧ ((fl 8)[0]? = some (fd 8 0)) ∧ ((fd 8 0).type = 2) ∧ ((fd 8 0).offset = 0) ∧ ((fl 8)[1]? = some (fd 8 1)) ∧ ((fd 8 1).type = 3) ∧ ((fd 8 1).offset = 1) ∧ ((fl 8)[2]? = some (fd 8 2)) ∧ ((fd 8 2).type = 4) ∧ ((fd 8 2).offset = 2) ∧ ((fl 8)[3]? = some (fd 8 3)) ∧ ((fd 8 3).type = 6) ∧ ((fd 8 3).offset = 3) ∧ (tt 9 = some ⟨.string, 1, 16, .string ByteArray.empty, false⟩) ∧ (tt 10 = some ⟨.string, 1, 16, .string ByteArray.empty, false⟩) ∧ (tt 11 = some ⟨.string, 1, 16, .string ByteArray.empty, false⟩) ∧ (tt 12 = some ⟨.int .u64, 1, 8, .int .u64 0, false⟩) ∧ (tt 13 = some ⟨.struct (fl 13), 2, 24, .agg #[.string ByteArray.empty, .int .u64 0], false⟩) := ⟨tt1, tt2, tt3, tt4, tt5, tt6, tt7, zc7, fll7, fl7_0, fdt7_0, fdo7_0, fl7_1, fdt7_1, fdo7_1, fl7_2, fdt7_2, fdo7_2, fl7_3, fdt7_3, fdo7_3, tt8, fll8, fl8_0, fdt8_0, fdo8_0, fl8_1, fdt8_1, fdo8_1, fl8_2, fdt8_2, fdo8_2, fl8_3, fdt8_3, fdo8_3, tt9, tt10, tt11, tt12, tt13⟩
theorem tyA1 : ((Value.agg #[.string ByteArray.empty, .int .u64 0]).cells.toList = [.string ByteArray.empty, .int .u64 0]) ∧ ((fl 13).toList = [fd 13 0, fd 13 1]) ∧ ((fl 13)[0]? = some (fd 13 0)) ∧ ((fd 13 0).type = 9) ∧ ((fd 13 0).offset = 0) ∧ ((fl 13)[1]? = some (fd 13 1)) ∧ ((fd 13 1).type = 12) ∧ ((fd 13 1).offset = 1) ∧ (tt 14 = some ⟨.struct (fl 14), 2, 24, .agg #[.string ByteArray.empty, .int .u64 0], false⟩) ∧ ((fl 14).toList = [fd 14 0, fd 14 1]) ∧ ((fl 14)[0]? = some (fd 14 0)) ∧ ((fd 14 0).type = 9) ∧ ((fd 14 0).offset = 0) ∧ ((fl 14)[1]? = some (fd 14 1)) ∧ ((fd 14 1).type = 12) ∧ ((fd 14 1).offset = 1) ∧ (tt 15 = some ⟨.pointer 154, 1, 8, .pointer none, false⟩) ∧ (tt 16 = some ⟨.pointer 157, 1, 8, .pointer none, false⟩) ∧ (tt 17 = some ⟨.pointer 166, 1, 8, .pointer none, false⟩) ∧ (tt 18 = some ⟨.struct (fl 18), 1, 8, .agg #[.pointer none], false⟩) ∧ ((Value.agg #[.pointer none]).cells.toList = [.pointer none]) ∧ ((fl 18).toList = [fd 18 0]) ∧ ((fl 18)[0]? = some (fd 18 0)) ∧ ((fd 18 0).type = 17) ∧ ((fd 18 0).offset = 0) ∧ (tt 19 = some ⟨.struct (fl 19), 1, 8, .agg #[.pointer none], false⟩) ∧ ((fl 19).toList = [fd 19 0]) ∧ ((fl 19)[0]? = some (fd 19 0)) ∧ ((fd 19 0).type = 17) ∧ ((fd 19 0).offset = 0) ∧ (tt 21 = some ⟨.int .i32, 1, 4, .int .i32 0, false⟩) ∧ (tt 22 = some ⟨.slice 45, 1, 24, .slice none 0 0, false⟩) ∧ (tt 23 = some ⟨.array 2 3, 2, 16, .agg #[.int .i64 0, .int .i64 0], false⟩) ∧ ((Value.agg #[.int .i64 0, .int .i64 0]).cells.toList = [.int .i64 0, .int .i64 0]) ∧ (tt 24 = some ⟨.slice 4, 1, 24, .slice none 0 0, false⟩) ∧ (tt 25 = some ⟨.slice 37, 1, 24, .slice none 0 0, false⟩) ∧ (tt 26 = some ⟨.struct (fl 26), 4, 64, .agg #[.int .i64 0, .int .i64 0, .slice none 0 0, .slice none 0 0], false⟩) ∧ ((Value.agg #[.int .i64 0, .int .i64 0, .slice none 0 0, .slice none 0 0]).cells.toList = [.int .i64 0, .int .i64 0, .slice none 0 0, .slice none 0 0]) ∧ ((fl 26).toList = [fd 26 0, fd 26 1, fd 26 2, fd 26 3]) ∧ ((fl 26)[0]? = some (fd 26 0)) := ⟨zc13, fll13, fl13_0, fdt13_0, fdo13_0, fl13_1, fdt13_1, fdo13_1, tt14, fll14, fl14_0, fdt14_0, fdo14_0, fl14_1, fdt14_1, fdo14_1, tt15, tt16, tt17, tt18, zc18, fll18, fl18_0, fdt18_0, fdo18_0, tt19, fll19, fl19_0, fdt19_0, fdo19_0, tt21, tt22, tt23, zc23, tt24, tt25, tt26, zc26, fll26, fl26_0⟩
theorem tyA2 : ((fd 26 0).type = 3) ∧ ((fd 26 0).offset = 0) ∧ ((fl 26)[1]? = some (fd 26 1)) ∧ ((fd 26 1).type = 3) ∧ ((fd 26 1).offset = 1) ∧ ((fl 26)[2]? = some (fd 26 2)) ∧ ((fd 26 2).type = 24) ∧ ((fd 26 2).offset = 2) ∧ ((fl 26)[3]? = some (fd 26 3)) ∧ ((fd 26 3).type = 25) ∧ ((fd 26 3).offset = 3) ∧ (tt 27 = some ⟨.struct (fl 27), 4, 64, .agg #[.int .i64 0, .int .i64 0, .slice none 0 0, .slice none 0 0], false⟩) ∧ ((fl 27).toList = [fd 27 0, fd 27 1, fd 27 2, fd 27 3]) ∧ ((fl 27)[0]? = some (fd 27 0)) ∧ ((fd 27 0).type = 3) ∧ ((fd 27 0).offset = 0) ∧ ((fl 27)[1]? = some (fd 27 1)) ∧ ((fd 27 1).type = 3) ∧ ((fd 27 1).offset = 1) ∧ ((fl 27)[2]? = some (fd 27 2)) ∧ ((fd 27 2).type = 24) ∧ ((fd 27 2).offset = 2) ∧ ((fl 27)[3]? = some (fd 27 3)) ∧ ((fd 27 3).type = 25) ∧ ((fd 27 3).offset = 3) ∧ (tt 28 = some ⟨.func #[22, 3, 23] #[27] false, 1, 8, .nilFunc, false⟩) ∧ (tt 29 = some ⟨.slice 40, 1, 24, .slice none 0 0, false⟩) ∧ (tt 30 = some ⟨.struct (fl 30), 4, 64, .agg #[.int .i64 0, .int .i64 0, .slice none 0 0, .slice none 0 0], false⟩) ∧ ((fl 30).toList = [fd 30 0, fd 30 1, fd 30 2, fd 30 3]) ∧ ((fl 30)[0]? = some (fd 30 0)) ∧ ((fd 30 0).type = 3) ∧ ((fd 30 0).offset = 0) ∧ ((fl 30)[1]? = some (fd 30 1)) ∧ ((fd 30 1).type = 3) ∧ ((fd 30 1).offset = 1) ∧ ((fl 30)[2]? = some (fd 30 2)) ∧ ((fd 30 2).type = 24) ∧ ((fd 30 2).offset = 2) ∧ ((fl 30)[3]? = some (fd 30 3)) ∧ ((fd 30 3).type = 29) := ⟨fdt26_0, fdo26_0, fl26_1, fdt26_1, fdo26_1, fl26_2, fdt26_2, fdo26_2, fl26_3, fdt26_3, fdo26_3, tt27, fll27, fl27_0, fdt27_0, fdo27_0, fl27_1, fdt27_1, fdo27_1, fl27_2, fdt27_2, fdo27_2, fl27_3, fdt27_3, fdo27_3, tt28, tt29, tt30, fll30, fl30_0, fdt30_0, fdo30_0, fl30_1, fdt30_1, fdo30_1, fl30_2, fdt30_2, fdo30_2, fl30_3, fdt30_3⟩
theorem tyA3 : ((fd 30 3).offset = 3) ∧ (tt 31 = some ⟨.struct (fl 31), 4, 64, .agg #[.int .i64 0, .int .i64 0, .slice none 0 0, .slice none 0 0], false⟩) ∧ ((fl 31).toList = [fd 31 0, fd 31 1, fd 31 2, fd 31 3]) ∧ ((fl 31)[0]? = some (fd 31 0)) ∧ ((fd 31 0).type = 3) ∧ ((fd 31 0).offset = 0) ∧ ((fl 31)[1]? = some (fd 31 1)) ∧ ((fd 31 1).type = 3) ∧ ((fd 31 1).offset = 1) ∧ ((fl 31)[2]? = some (fd 31 2)) ∧ ((fd 31 2).type = 24) ∧ ((fd 31 2).offset = 2) ∧ ((fl 31)[3]? = some (fd 31 3)) ∧ ((fd 31 3).type = 29) ∧ ((fd 31 3).offset = 3) ∧ (tt 32 = some ⟨.int .i64, 1, 8, .int .i64 0, false⟩) ∧ (tt 34 = some ⟨.func #[27] #[31, 32] false, 1, 8, .nilFunc, false⟩) ∧ (tt 35 = some ⟨.struct (fl 35), 2, 16, .agg #[.int .i64 0, .int .i64 0], true⟩) ∧ ((fl 35).toList = [fd 35 0, fd 35 1]) ∧ ((fl 35)[0]? = some (fd 35 0)) ∧ ((fd 35 0).type = 3) ∧ ((fd 35 0).offset = 0) ∧ ((fl 35)[1]? = some (fd 35 1)) ∧ ((fd 35 1).type = 3) ∧ ((fd 35 1).offset = 1) ∧ (tt 36 = some ⟨.struct (fl 36), 2, 16, .agg #[.int .i64 0, .int .i64 0], true⟩) ∧ ((fl 36).toList = [fd 36 0, fd 36 1]) ∧ ((fl 36)[0]? = some (fd 36 0)) ∧ ((fd 36 0).type = 3) ∧ ((fd 36 0).offset = 0) ∧ ((fl 36)[1]? = some (fd 36 1)) ∧ ((fd 36 1).type = 3) ∧ ((fd 36 1).offset = 1) ∧ (tt 37 = some ⟨.slice 36, 1, 24, .slice none 0 0, false⟩) ∧ (tt 38 = some ⟨.func #[3, 3] #[29] false, 1, 8, .nilFunc, false⟩) ∧ (tt 39 = some ⟨.func #[27, 40] #[4] false, 1, 8, .nilFunc, false⟩) ∧ (tt 40 = some ⟨.slice 3, 1, 24, .slice none 0 0, false⟩) ∧ (tt 41 = some ⟨.func #[31, 3, 40] #[4] false, 1, 8, .nilFunc, false⟩) ∧ (tt 42 = some ⟨.func #[] #[4] false, 1, 8, .nilFunc, false⟩) ∧ (tt 43 = some ⟨.func #[31, 31] #[4] false, 1, 8, .nilFunc, false⟩) := ⟨fdo30_3, tt31, fll31, fl31_0, fdt31_0, fdo31_0, fl31_1, fdt31_1, fdo31_1, fl31_2, fdt31_2, fdo31_2, fl31_3, fdt31_3, fdo31_3, tt32, tt34, tt35, fll35, fl35_0, fdt35_0, fdo35_0, fl35_1, fdt35_1, fdo35_1, tt36, fll36, fl36_0, fdt36_0, fdo36_0, fl36_1, fdt36_1, fdo36_1, tt37, tt38, tt39, tt40, tt41, tt42, tt43⟩
theorem tyA4 : (tt 44 = some ⟨.func #[22, 3, 23] #[4] false, 1, 8, .nilFunc, false⟩) ∧ (tt 45 = some ⟨.array 3 3, 3, 24, .agg #[.int .i64 0, .int .i64 0, .int .i64 0], false⟩) ∧ ((Value.agg #[.int .i64 0, .int .i64 0, .int .i64 0]).cells.toList = [.int .i64 0, .int .i64 0, .int .i64 0]) ∧ (tt 46 = some ⟨.slice 56, 1, 24, .slice none 0 0, false⟩) ∧ (tt 48 = some ⟨.func #[22, 3, 23] #[31, 46] false, 1, 8, .nilFunc, false⟩) ∧ (tt 49 = some ⟨.slice 59, 1, 24, .slice none 0 0, false⟩) ∧ (tt 51 = some ⟨.func #[31, 46, 3] #[31, 49, 32] false, 1, 8, .nilFunc, false⟩) ∧ (tt 52 = some ⟨.func #[31, 46, 3] #[27] false, 1, 8, .nilFunc, false⟩) ∧ (tt 53 = some ⟨.func #[31] #[24] false, 1, 8, .nilFunc, false⟩) ∧ (tt 54 = some ⟨.func #[46, 3, 40] #[40] false, 1, 8, .nilFunc, false⟩) ∧ (tt 55 = some ⟨.struct (fl 55), 3, 24, .agg #[.int .i64 0, .int .i64 0, .int .i64 0], true⟩) ∧ ((fl 55).toList = [fd 55 0, fd 55 1, fd 55 2]) ∧ ((fl 55)[0]? = some (fd 55 0)) ∧ ((fd 55 0).type = 3) ∧ ((fd 55 0).offset = 0) ∧ ((fl 55)[1]? = some (fd 55 1)) ∧ ((fd 55 1).type = 3) ∧ ((fd 55 1).offset = 1) ∧ ((fl 55)[2]? = some (fd 55 2)) ∧ ((fd 55 2).type = 3) ∧ ((fd 55 2).offset = 2) ∧ (tt 56 = some ⟨.struct (fl 56), 3, 24, .agg #[.int .i64 0, .int .i64 0, .int .i64 0], true⟩) ∧ ((fl 56).toList = [fd 56 0, fd 56 1, fd 56 2]) ∧ ((fl 56)[0]? = some (fd 56 0)) ∧ ((fd 56 0).type = 3) ∧ ((fd 56 0).offset = 0) ∧ ((fl 56)[1]? = some (fd 56 1)) ∧ ((fd 56 1).type = 3) ∧ ((fd 56 1).offset = 1) ∧ ((fl 56)[2]? = some (fd 56 2)) ∧ ((fd 56 2).type = 3) ∧ ((fd 56 2).offset = 2) ∧ (tt 57 = some ⟨.func #[22, 3, 45] #[4] false, 1, 8, .nilFunc, false⟩) ∧ (tt 58 = some ⟨.struct (fl 58), 2, 16, .agg #[.int .i64 0, .int .i64 0], true⟩) ∧ ((fl 58).toList = [fd 58 0, fd 58 1]) ∧ ((fl 58)[0]? = some (fd 58 0)) ∧ ((fd 58 0).type = 3) ∧ ((fd 58 0).offset = 0) ∧ ((fl 58)[1]? = some (fd 58 1)) ∧ ((fd 58 1).type = 3) := ⟨tt44, tt45, zc45, tt46, tt48, tt49, tt51, tt52, tt53, tt54, tt55, fll55, fl55_0, fdt55_0, fdo55_0, fl55_1, fdt55_1, fdo55_1, fl55_2, fdt55_2, fdo55_2, tt56, fll56, fl56_0, fdt56_0, fdo56_0, fl56_1, fdt56_1, fdo56_1, fl56_2, fdt56_2, fdo56_2, tt57, tt58, fll58, fl58_0, fdt58_0, fdo58_0, fl58_1, fdt58_1⟩
theorem tyA5 : ((fd 58 1).offset = 1) ∧ (tt 59 = some ⟨.struct (fl 59), 2, 16, .agg #[.int .i64 0, .int .i64 0], true⟩) ∧ ((fl 59).toList = [fd 59 0, fd 59 1]) ∧ ((fl 59)[0]? = some (fd 59 0)) ∧ ((fd 59 0).type = 3) ∧ ((fd 59 0).offset = 0) ∧ ((fl 59)[1]? = some (fd 59 1)) ∧ ((fd 59 1).type = 3) ∧ ((fd 59 1).offset = 1) ∧ (tt 60 = some ⟨.int .u64, 1, 8, .int .u64 0, false⟩) ∧ (tt 61 = some ⟨.slice 65, 1, 24, .slice none 0 0, false⟩) ∧ (tt 63 = some ⟨.func #[31, 46] #[61, 4] false, 1, 8, .nilFunc, false⟩) ∧ (tt 64 = some ⟨.struct (fl 64), 6, 96, .agg #[.int .i64 0, .slice none 0 0, .int .i64 0, .int .i64 0, .slice none 0 0, .slice none 0 0], false⟩) ∧ ((Value.agg #[.int .i64 0, .slice none 0 0, .int .i64 0, .int .i64 0, .slice none 0 0, .slice none 0 0]).cells.toList = [.int .i64 0, .slice none 0 0, .int .i64 0, .int .i64 0, .slice none 0 0, .slice none 0 0]) ∧ ((fl 64).toList = [fd 64 0, fd 64 1, fd 64 2]) ∧ ((fl 64)[0]? = some (fd 64 0)) ∧ ((fd 64 0).type = 3) ∧ ((fd 64 0).offset = 0) ∧ ((fl 64)[1]? = some (fd 64 1)) ∧ ((fd 64 1).type = 49) ∧ ((fd 64 1).offset = 1) ∧ ((fl 64)[2]? = some (fd 64 2)) ∧ ((fd 64 2).type = 31) ∧ ((fd 64 2).offset = 2) ∧ (tt 65 = some ⟨.struct (fl 65), 6, 96, .agg #[.int .i64 0, .slice none 0 0, .int .i64 0, .int .i64 0, .slice none 0 0, .slice none 0 0], false⟩) ∧ ((fl 65).toList = [fd 65 0, fd 65 1, fd 65 2]) ∧ ((fl 65)[0]? = some (fd 65 0)) ∧ ((fd 65 0).type = 3) ∧ ((fd 65 0).offset = 0) ∧ ((fl 65)[1]? = some (fd 65 1)) ∧ ((fd 65 1).type = 49) ∧ ((fd 65 1).offset = 1) ∧ ((fl 65)[2]? = some (fd 65 2)) ∧ ((fd 65 2).type = 31) ∧ ((fd 65 2).offset = 2) ∧ (tt 66 = some ⟨.func #[65, 3] #[40] false, 1, 8, .nilFunc, false⟩) ∧ (tt 67 = some ⟨.func #[65, 59] #[3] false, 1, 8, .nilFunc, false⟩) ∧ (tt 68 = some ⟨.func #[65, 3, 59] #[3] false, 1, 8, .nilFunc, false⟩) ∧ (tt 69 = some ⟨.func #[65, 3] #[4] false, 1, 8, .nilFunc, false⟩) ∧ (tt 70 = some ⟨.func #[22, 45, 59] #[4] false, 1, 8, .nilFunc, false⟩) := ⟨fdo58_1, tt59, fll59, fl59_0, fdt59_0, fdo59_0, fl59_1, fdt59_1, fdo59_1, tt60, tt61, tt63, tt64, zc64, fll64, fl64_0, fdt64_0, fdo64_0, fl64_1, fdt64_1, fdo64_1, fl64_2, fdt64_2, fdo64_2, tt65, fll65, fl65_0, fdt65_0, fdo65_0, fl65_1, fdt65_1, fdo65_1, fl65_2, fdt65_2, fdo65_2, tt66, tt67, tt68, tt69, tt70⟩
theorem tyA6 : (tt 72 = some ⟨.func #[31, 46, 3] #[61, 32] false, 1, 8, .nilFunc, false⟩) ∧ (tt 73 = some ⟨.func #[65, 65] #[4] false, 1, 8, .nilFunc, false⟩) ∧ (tt 74 = some ⟨.func #[65, 46] #[4] false, 1, 8, .nilFunc, false⟩) ∧ (tt 75 = some ⟨.func #[61, 46] #[31, 32] false, 1, 8, .nilFunc, false⟩) ∧ (tt 76 = some ⟨.func #[40, 40] #[4] false, 1, 8, .nilFunc, false⟩) ∧ (tt 77 = some ⟨.func #[61] #[40] false, 1, 8, .nilFunc, false⟩) ∧ (tt 78 = some ⟨.func #[61, 40] #[4] false, 1, 8, .nilFunc, false⟩) ∧ (tt 79 = some ⟨.func #[61, 46, 40, 3] #[40] false, 1, 8, .nilFunc, false⟩) ∧ (tt 81 = some ⟨.func #[61, 46, 40, 3] #[40, 4] false, 1, 8, .nilFunc, false⟩) ∧ (tt 82 = some ⟨.func #[61, 46] #[4] false, 1, 8, .nilFunc, false⟩) ∧ (tt 83 = some ⟨.func #[61, 46, 40] #[4] false, 1, 8, .nilFunc, false⟩) ∧ (tt 84 = some ⟨.func #[22, 45, 40] #[4] false, 1, 8, .nilFunc, false⟩) ∧ (tt 85 = some ⟨.func #[31, 61, 46, 29] #[4] false, 1, 8, .nilFunc, false⟩) ∧ (tt 86 = some ⟨.func #[31] #[31, 32] false, 1, 8, .nilFunc, false⟩) ∧ (tt 87 = some ⟨.func #[27, 40] #[40] false, 1, 8, .nilFunc, false⟩) ∧ (tt 88 = some ⟨.func #[27, 40, 3] #[40] false, 1, 8, .nilFunc, false⟩) ∧ (tt 89 = some ⟨.func #[31, 3, 40] #[3] false, 1, 8, .nilFunc, false⟩) ∧ (tt 90 = some ⟨.func #[24, 24] #[4] false, 1, 8, .nilFunc, false⟩) ∧ (tt 91 = some ⟨.func #[29, 29, 76] #[4] false, 1, 8, .nilFunc, false⟩) ∧ (tt 92 = some ⟨.func #[22, 3, 23] #[31] false, 1, 8, .nilFunc, false⟩) ∧ (tt 93 = some ⟨.func #[3] #[46] false, 1, 8, .nilFunc, false⟩) ∧ (tt 94 = some ⟨.func #[31] #[4] false, 1, 8, .nilFunc, false⟩) ∧ (tt 95 = some ⟨.func #[46, 3] #[49] false, 1, 8, .nilFunc, false⟩) ∧ (tt 96 = some ⟨.func #[31] #[27] false, 1, 8, .nilFunc, false⟩) ∧ (tt 97 = some ⟨.func #[49, 98] #[3] false, 1, 8, .nilFunc, false⟩) ∧ (tt 98 = some ⟨.func #[59] #[4] false, 1, 8, .nilFunc, false⟩) ∧ (tt 99 = some ⟨.func #[56, 3] #[4] false, 1, 8, .nilFunc, false⟩) ∧ (tt 100 = some ⟨.func #[65, 3, 3] #[4] false, 1, 8, .nilFunc, false⟩) ∧ (tt 101 = some ⟨.func #[31, 3, 3] #[3] false, 1, 8, .nilFunc, false⟩) ∧ (tt 102 = some ⟨.func #[49, 49] #[4] false, 1, 8, .nilFunc, false⟩) ∧ (tt 103 = some ⟨.func #[29, 104] #[3] false, 1, 8, .nilFunc, false⟩) ∧ (tt 104 = some ⟨.func #[40] #[4] false, 1, 8, .nilFunc, false⟩) ∧ (tt 105 = some ⟨.func #[40] #[40] false, 1, 8, .nilFunc, false⟩) ∧ (tt 106 = some ⟨.func #[29, 104] #[4] false, 1, 8, .nilFunc, false⟩) ∧ (tt 107 = some ⟨.func #[31, 40] #[4] false, 1, 8, .nilFunc, false⟩) ∧ (tt 108 = some ⟨.func #[27] #[4] false, 1, 8, .nilFunc, false⟩) ∧ (tt 109 = some ⟨.func #[40] #[9] false, 1, 8, .nilFunc, false⟩) ∧ (tt 112 = some ⟨.func #[31] #[40] false, 1, 8, .nilFunc, false⟩) ∧ (tt 114 = some ⟨.func #[40, 3] #[4] false, 1, 8, .nilFunc, false⟩) ∧ (tt 115 = some ⟨.func #[40, 116] #[4] false, 1, 8, .nilFunc, false⟩) := ⟨tt72, tt73, tt74, tt75, tt76, tt77, tt78, tt79, tt81, tt82, tt83, tt84, tt85, tt86, tt87, tt88, tt89, tt90, tt91, tt92, tt93, tt94, tt95, tt96, tt97, tt98, tt99, tt100, tt101, tt102, tt103, tt104, tt105, tt106, tt107, tt108, tt109, tt112, tt114, tt115⟩
theorem tyA7 : (tt 116 = some ⟨.func #[3] #[4] false, 1, 8, .nilFunc, false⟩) ∧ (tt 117 = some ⟨.func #[24] #[24] false, 1, 8, .nilFunc, false⟩) ∧ (tt 118 = some ⟨.func #[31, 40] #[3] false, 1, 8, .nilFunc, false⟩) ∧ (tt 119 = some ⟨.func #[25, 122] #[4] false, 1, 8, .nilFunc, false⟩) ∧ (tt 120 = some ⟨.func #[37, 121] #[4] false, 1, 8, .nilFunc, false⟩) ∧ (tt 121 = some ⟨.func #[36] #[4] false, 1, 8, .nilFunc, false⟩) ∧ (tt 122 = some ⟨.func #[37] #[4] false, 1, 8, .nilFunc, false⟩) ∧ (tt 123 = some ⟨.func #[40] #[] false, 1, 8, .nilFunc, false⟩) ∧ (tt 124 = some ⟨.slice 5, 1, 24, .slice none 0 0, false⟩) ∧ (tt 125 = some ⟨.func #[31, 40, 24, 3] #[9] false, 1, 8, .nilFunc, false⟩) ∧ (tt 126 = some ⟨.func #[40, 116] #[3] false, 1, 8, .nilFunc, false⟩) ∧ (tt 127 = some ⟨.func #[25, 122] #[3] false, 1, 8, .nilFunc, false⟩) ∧ (tt 128 = some ⟨.func #[37, 121] #[3] false, 1, 8, .nilFunc, false⟩) ∧ (tt 129 = some ⟨.func #[40, 3, 3, 3] #[] false, 1, 8, .nilFunc, false⟩) ∧ (tt 130 = some ⟨.func #[60] #[3] false, 1, 8, .nilFunc, false⟩) ∧ (tt 131 = some ⟨.func #[40, 3, 3] #[] false, 1, 8, .nilFunc, false⟩) ∧ (tt 132 = some ⟨.int .i64, 1, 8, .int .i64 0, false⟩) ∧ (tt 134 = some ⟨.func #[40, 3, 3] #[3, 132] false, 1, 8, .nilFunc, false⟩) ∧ (tt 135 = some ⟨.func #[40, 3, 3] #[4] false, 1, 8, .nilFunc, false⟩) ∧ (tt 136 = some ⟨.func #[3, 3] #[4] false, 1, 8, .nilFunc, false⟩) ∧ (tt 137 = some ⟨.func #[40, 3, 3, 3] #[3] false, 1, 8, .nilFunc, false⟩) ∧ (tt 138 = some ⟨.func #[40, 3, 3, 3] #[3, 4] false, 1, 8, .nilFunc, false⟩) ∧ (tt 139 = some ⟨.func #[140] #[3] false, 1, 8, .nilFunc, false⟩) ∧ (tt 140 = some ⟨.int .u32, 1, 4, .int .u32 0, false⟩) ∧ (tt 141 = some ⟨.func #[142] #[3] false, 1, 8, .nilFunc, false⟩) ∧ (tt 142 = some ⟨.int .u64, 1, 8, .int .u64 0, false⟩) ∧ (tt 143 = some ⟨.int .u64, 1, 8, .int .u64 0, false⟩) ∧ (tt 144 = some ⟨.func #[3] #[60] false, 1, 8, .nilFunc, false⟩) ∧ (tt 145 = some ⟨.func #[] #[142] false, 1, 8, .nilFunc, false⟩) ∧ (tt 146 = some ⟨.func #[40, 3, 147] #[3] false, 1, 8, .nilFunc, false⟩) ∧ (tt 147 = some ⟨.pointer 3, 1, 8, .pointer none, false⟩) ∧ (tt 148 = some ⟨.func #[40, 3, 3, 3, 147] #[3] false, 1, 8, .nilFunc, false⟩) ∧ (tt 149 = some ⟨.pointer 143, 1, 8, .pointer none, false⟩) ∧ (tt 151 = some ⟨.func #[40, 3, 3, 147] #[3, 3] false, 1, 8, .nilFunc, false⟩) ∧ (tt 152 = some ⟨.func #[] #[9] false, 1, 8, .nilFunc, false⟩) ∧ (tt 153 = some ⟨.struct (fl 153), 4, 40, .agg #[.pointer none, .pointer none, .pointer none, .string ByteArray.empty], false⟩) ∧ ((Value.agg #[.pointer none, .pointer none, .pointer none, .string ByteArray.empty]).cells.toList = [.pointer none, .pointer none, .pointer none, .string ByteArray.empty]) ∧ ((fl 153).toList = [fd 153 0, fd 153 1, fd 153 2, fd 153 3]) ∧ ((fl 153)[0]? = some (fd 153 0)) ∧ ((fd 153 0).type = 17) := ⟨tt116, tt117, tt118, tt119, tt120, tt121, tt122, tt123, tt124, tt125, tt126, tt127, tt128, tt129, tt130, tt131, tt132, tt134, tt135, tt136, tt137, tt138, tt139, tt140, tt141, tt142, tt143, tt144, tt145, tt146, tt147, tt148, tt149, tt151, tt152, tt153, zc153, fll153, fl153_0, fdt153_0⟩
theorem tyA8 : ((fd 153 0).offset = 0) ∧ ((fl 153)[1]? = some (fd 153 1)) ∧ ((fd 153 1).type = 17) ∧ ((fd 153 1).offset = 1) ∧ ((fl 153)[2]? = some (fd 153 2)) ∧ ((fd 153 2).type = 17) ∧ ((fd 153 2).offset = 2) ∧ ((fl 153)[3]? = some (fd 153 3)) ∧ ((fd 153 3).type = 9) ∧ ((fd 153 3).offset = 3) ∧ (tt 154 = some ⟨.struct (fl 154), 4, 40, .agg #[.pointer none, .pointer none, .pointer none, .string ByteArray.empty], false⟩) ∧ ((fl 154).toList = [fd 154 0, fd 154 1, fd 154 2, fd 154 3]) ∧ ((fl 154)[0]? = some (fd 154 0)) ∧ ((fd 154 0).type = 17) ∧ ((fd 154 0).offset = 0) ∧ ((fl 154)[1]? = some (fd 154 1)) ∧ ((fd 154 1).type = 17) ∧ ((fd 154 1).offset = 1) ∧ ((fl 154)[2]? = some (fd 154 2)) ∧ ((fd 154 2).type = 17) ∧ ((fd 154 2).offset = 2) ∧ ((fl 154)[3]? = some (fd 154 3)) ∧ ((fd 154 3).type = 9) ∧ ((fd 154 3).offset = 3) ∧ (tt 158 = some ⟨.func #[] #[3] false, 1, 8, .nilFunc, false⟩) ∧ (tt 159 = some ⟨.int .u8, 1, 1, .int .u8 0, false⟩) ∧ (tt 160 = some ⟨.int .u8, 1, 1, .int .u8 0, false⟩) ∧ (tt 161 = some ⟨.func #[167, 167] #[4] false, 1, 8, .nilFunc, false⟩) ∧ (tt 162 = some ⟨.pointer 5, 1, 8, .pointer none, false⟩) ∧ (tt 163 = some ⟨.int .i32, 1, 4, .int .i32 0, false⟩) ∧ (tt 164 = some ⟨.int .i32, 1, 4, .int .i32 0, false⟩) ∧ (tt 165 = some ⟨.struct (fl 165), 11, 48, .agg #[.int .u64 0, .int .u64 0, .int .u32 0, .int .u8 0, .int .u8 0, .int .u8 0, .int .u8 0, .nilFunc, .pointer none, .int .i32 0, .int .i32 0], false⟩) ∧ ((Value.agg #[.int .u64 0, .int .u64 0, .int .u32 0, .int .u8 0, .int .u8 0, .int .u8 0, .int .u8 0, .nilFunc, .pointer none, .int .i32 0, .int .i32 0]).cells.toList = [.int .u64 0, .int .u64 0, .int .u32 0, .int .u8 0, .int .u8 0, .int .u8 0, .int .u8 0, .nilFunc, .pointer none, .int .i32 0, .int .i32 0]) ∧ ((fl 165).toList = [fd 165 0, fd 165 1, fd 165 2, fd 165 3, fd 165 4, fd 165 5, fd 165 6, fd 165 7, fd 165 8, fd 165 9, fd 165 10]) ∧ ((fl 165)[0]? = some (fd 165 0)) ∧ ((fd 165 0).type = 12) ∧ ((fd 165 0).offset = 0) ∧ ((fl 165)[1]? = some (fd 165 1)) ∧ ((fd 165 1).type = 12) ∧ ((fd 165 1).offset = 1) := ⟨fdo153_0, fl153_1, fdt153_1, fdo153_1, fl153_2, fdt153_2, fdo153_2, fl153_3, fdt153_3, fdo153_3, tt154, fll154, fl154_0, fdt154_0, fdo154_0, fl154_1, fdt154_1, fdo154_1, fl154_2, fdt154_2, fdo154_2, fl154_3, fdt154_3, fdo154_3, tt158, tt159, tt160, tt161, tt162, tt163, tt164, tt165, zc165, fll165, fl165_0, fdt165_0, fdo165_0, fl165_1, fdt165_1, fdo165_1⟩
theorem tyA9 : ((fl 165)[2]? = some (fd 165 2)) ∧ ((fd 165 2).type = 140) ∧ ((fd 165 2).offset = 2) ∧ ((fl 165)[3]? = some (fd 165 3)) ∧ ((fd 165 3).type = 159) ∧ ((fd 165 3).offset = 3) ∧ ((fl 165)[4]? = some (fd 165 4)) ∧ ((fd 165 4).type = 5) ∧ ((fd 165 4).offset = 4) ∧ ((fl 165)[5]? = some (fd 165 5)) ∧ ((fd 165 5).type = 5) ∧ ((fd 165 5).offset = 5) ∧ ((fl 165)[6]? = some (fd 165 6)) ∧ ((fd 165 6).type = 160) ∧ ((fd 165 6).offset = 6) ∧ ((fl 165)[7]? = some (fd 165 7)) ∧ ((fd 165 7).type = 161) ∧ ((fd 165 7).offset = 7) ∧ ((fl 165)[8]? = some (fd 165 8)) ∧ ((fd 165 8).type = 162) ∧ ((fd 165 8).offset = 8) ∧ ((fl 165)[9]? = some (fd 165 9)) ∧ ((fd 165 9).type = 163) ∧ ((fd 165 9).offset = 9) ∧ ((fl 165)[10]? = some (fd 165 10)) ∧ ((fd 165 10).type = 164) ∧ ((fd 165 10).offset = 10) ∧ (tt 166 = some ⟨.struct (fl 166), 11, 48, .agg #[.int .u64 0, .int .u64 0, .int .u32 0, .int .u8 0, .int .u8 0, .int .u8 0, .int .u8 0, .nilFunc, .pointer none, .int .i32 0, .int .i32 0], false⟩) ∧ ((fl 166).toList = [fd 166 0, fd 166 1, fd 166 2, fd 166 3, fd 166 4, fd 166 5, fd 166 6, fd 166 7, fd 166 8, fd 166 9, fd 166 10]) ∧ ((fl 166)[0]? = some (fd 166 0)) ∧ ((fd 166 0).type = 12) ∧ ((fd 166 0).offset = 0) ∧ ((fl 166)[1]? = some (fd 166 1)) ∧ ((fd 166 1).type = 12) ∧ ((fd 166 1).offset = 1) ∧ ((fl 166)[2]? = some (fd 166 2)) ∧ ((fd 166 2).type = 140) ∧ ((fd 166 2).offset = 2) ∧ ((fl 166)[3]? = some (fd 166 3)) ∧ ((fd 166 3).type = 159) := ⟨fl165_2, fdt165_2, fdo165_2, fl165_3, fdt165_3, fdo165_3, fl165_4, fdt165_4, fdo165_4, fl165_5, fdt165_5, fdo165_5, fl165_6, fdt165_6, fdo165_6, fl165_7, fdt165_7, fdo165_7, fl165_8, fdt165_8, fdo165_8, fl165_9, fdt165_9, fdo165_9, fl165_10, fdt165_10, fdo165_10, tt166, fll166, fl166_0, fdt166_0, fdo166_0, fl166_1, fdt166_1, fdo166_1, fl166_2, fdt166_2, fdo166_2, fl166_3, fdt166_3⟩
theorem tyA10 : ((fd 166 3).offset = 3) ∧ ((fl 166)[4]? = some (fd 166 4)) ∧ ((fd 166 4).type = 5) ∧ ((fd 166 4).offset = 4) ∧ ((fl 166)[5]? = some (fd 166 5)) ∧ ((fd 166 5).type = 5) ∧ ((fd 166 5).offset = 5) ∧ ((fl 166)[6]? = some (fd 166 6)) ∧ ((fd 166 6).type = 160) ∧ ((fd 166 6).offset = 6) ∧ ((fl 166)[7]? = some (fd 166 7)) ∧ ((fd 166 7).type = 161) ∧ ((fd 166 7).offset = 7) ∧ ((fl 166)[8]? = some (fd 166 8)) ∧ ((fd 166 8).type = 162) ∧ ((fd 166 8).offset = 8) ∧ ((fl 166)[9]? = some (fd 166 9)) ∧ ((fd 166 9).type = 163) ∧ ((fd 166 9).offset = 9) ∧ ((fl 166)[10]? = some (fd 166 10)) ∧ ((fd 166 10).type = 164) ∧ ((fd 166 10).offset = 10) := ⟨fdo166_3, fl166_4, fdt166_4, fdo166_4, fl166_5, fdt166_5, fdo166_5, fl166_6, fdt166_6, fdo166_6, fl166_7, fdt166_7, fdo166_7, fl166_8, fdt166_8, fdo166_8, fl166_9, fdt166_9, fdo166_9, fl166_10, fdt166_10, fdo166_10⟩
theorem tyA : type_of% (And.intro tyA0 (And.intro tyA1 (And.intro tyA2 (And.intro tyA3 (And.intro tyA4 (And.intro tyA5 (And.intro tyA6 (And.intro tyA7 (And.intro tyA8 (And.intro tyA9 (tyA10))))))))))) := And.intro tyA0 (And.intro tyA1 (And.intro tyA2 (And.intro tyA3 (And.intro tyA4 (And.intro tyA5 (And.intro tyA6 (And.intro tyA7 (And.intro tyA8 (And.intro tyA9 (tyA10))))))))))
attribute [irreducible] tt fl fd
end Go.Proofs.Ytcpipfodedfpkaa
