/-
  DERIVED by gen_ty.py: what the program says of its types, a lemma each.
-/
import Derived.Test.YtcfnbofapjgepaaChecked
import Derived.Test.YtcfnbofapjgepaaAbD
import Derived.KernelRfl
namespace Go.Proofs.Ytcfnbofapjgepaa
open Go.Ab
set_option linter.unusedSimpArgs false

noncomputable def tt : TypeId → Option TI := ttOf Try.prog
theorem ttok : TTok Try.prog tt := ttOf_ok _
noncomputable def fl (T : TypeId) : Array Field := flOf Try.prog T
noncomputable def fd (T : TypeId) (k : Nat) : Field := (fl T).getD k default

theorem tt1 : tt 1 = some ⟨.func #[] #[] false, 1, 8, .nilFunc, false⟩ := by kernel_rfl
theorem tt2 : tt 2 = some ⟨.int .i64, 1, 8, .int .i64 0, false⟩ := by kernel_rfl
theorem tt3 : tt 3 = some ⟨.int .i64, 1, 8, .int .i64 0, false⟩ := by kernel_rfl
theorem tt4 : tt 4 = some ⟨.bool, 1, 1, .bool false, false⟩ := by kernel_rfl
theorem tt5 : tt 5 = some ⟨.int .u8, 1, 1, .int .u8 0, false⟩ := by kernel_rfl
theorem tt6 : tt 6 = some ⟨.int .u8, 1, 1, .int .u8 0, false⟩ := by kernel_rfl
theorem tt7 : tt 7 = some ⟨.struct (fl 7), 4, 24, .agg #[.int .i64 0, .int .i64 0, .bool false, .int .u8 0], false⟩ := by kernel_rfl
theorem zc7 : (Value.agg #[.int .i64 0, .int .i64 0, .bool false, .int .u8 0]).cells.toList = [.int .i64 0, .int .i64 0, .bool false, .int .u8 0] := by kernel_rfl
theorem fll7 : (fl 7).toList = [fd 7 0, fd 7 1, fd 7 2, fd 7 3] := by kernel_rfl
theorem fl7_0 : (fl 7)[0]? = some (fd 7 0) := by kernel_rfl
theorem fdt7_0 : (fd 7 0).type = 2 := by kernel_rfl
theorem fdo7_0 : (fd 7 0).offset = 0 := by kernel_rfl
theorem fl7_1 : (fl 7)[1]? = some (fd 7 1) := by kernel_rfl
theorem fdt7_1 : (fd 7 1).type = 3 := by kernel_rfl
theorem fdo7_1 : (fd 7 1).offset = 1 := by kernel_rfl
theorem fl7_2 : (fl 7)[2]? = some (fd 7 2) := by kernel_rfl
theorem fdt7_2 : (fd 7 2).type = 4 := by kernel_rfl
theorem fdo7_2 : (fd 7 2).offset = 2 := by kernel_rfl
theorem fl7_3 : (fl 7)[3]? = some (fd 7 3) := by kernel_rfl
theorem fdt7_3 : (fd 7 3).type = 6 := by kernel_rfl
theorem fdo7_3 : (fd 7 3).offset = 3 := by kernel_rfl
theorem tt8 : tt 8 = some ⟨.struct (fl 8), 4, 24, .agg #[.int .i64 0, .int .i64 0, .bool false, .int .u8 0], false⟩ := by kernel_rfl
theorem fll8 : (fl 8).toList = [fd 8 0, fd 8 1, fd 8 2, fd 8 3] := by kernel_rfl
theorem fl8_0 : (fl 8)[0]? = some (fd 8 0) := by kernel_rfl
theorem fdt8_0 : (fd 8 0).type = 2 := by kernel_rfl
theorem fdo8_0 : (fd 8 0).offset = 0 := by kernel_rfl
theorem fl8_1 : (fl 8)[1]? = some (fd 8 1) := by kernel_rfl
theorem fdt8_1 : (fd 8 1).type = 3 := by kernel_rfl
theorem fdo8_1 : (fd 8 1).offset = 1 := by kernel_rfl
theorem fl8_2 : (fl 8)[2]? = some (fd 8 2) := by kernel_rfl
theorem fdt8_2 : (fd 8 2).type = 4 := by kernel_rfl
theorem fdo8_2 : (fd 8 2).offset = 2 := by kernel_rfl
theorem fl8_3 : (fl 8)[3]? = some (fd 8 3) := by kernel_rfl
theorem fdt8_3 : (fd 8 3).type = 6 := by kernel_rfl
theorem fdo8_3 : (fd 8 3).offset = 3 := by kernel_rfl
theorem tt9 : tt 9 = some ⟨.string, 1, 16, .string ByteArray.empty, false⟩ := by kernel_rfl
theorem tt10 : tt 10 = some ⟨.string, 1, 16, .string ByteArray.empty, false⟩ := by kernel_rfl
theorem tt11 : tt 11 = some ⟨.string, 1, 16, .string ByteArray.empty, false⟩ := by kernel_rfl
theorem tt12 : tt 12 = some ⟨.int .u64, 1, 8, .int .u64 0, false⟩ := by kernel_rfl
theorem tt13 : tt 13 = some ⟨.struct (fl 13), 2, 24, .agg #[.string ByteArray.empty, .int .u64 0], false⟩ := by kernel_rfl
theorem zc13 : (Value.agg #[.string ByteArray.empty, .int .u64 0]).cells.toList = [.string ByteArray.empty, .int .u64 0] := by kernel_rfl
theorem fll13 : (fl 13).toList = [fd 13 0, fd 13 1] := by kernel_rfl
theorem fl13_0 : (fl 13)[0]? = some (fd 13 0) := by kernel_rfl
theorem fdt13_0 : (fd 13 0).type = 9 := by kernel_rfl
theorem fdo13_0 : (fd 13 0).offset = 0 := by kernel_rfl
theorem fl13_1 : (fl 13)[1]? = some (fd 13 1) := by kernel_rfl
theorem fdt13_1 : (fd 13 1).type = 12 := by kernel_rfl
theorem fdo13_1 : (fd 13 1).offset = 1 := by kernel_rfl
theorem tt14 : tt 14 = some ⟨.struct (fl 14), 2, 24, .agg #[.string ByteArray.empty, .int .u64 0], false⟩ := by kernel_rfl
theorem fll14 : (fl 14).toList = [fd 14 0, fd 14 1] := by kernel_rfl
theorem fl14_0 : (fl 14)[0]? = some (fd 14 0) := by kernel_rfl
theorem fdt14_0 : (fd 14 0).type = 9 := by kernel_rfl
theorem fdo14_0 : (fd 14 0).offset = 0 := by kernel_rfl
theorem fl14_1 : (fl 14)[1]? = some (fd 14 1) := by kernel_rfl
theorem fdt14_1 : (fd 14 1).type = 12 := by kernel_rfl
theorem fdo14_1 : (fd 14 1).offset = 1 := by kernel_rfl
theorem tt15 : tt 15 = some ⟨.pointer 94, 1, 8, .pointer none, false⟩ := by kernel_rfl
theorem tt16 : tt 16 = some ⟨.pointer 97, 1, 8, .pointer none, false⟩ := by kernel_rfl
theorem tt17 : tt 17 = some ⟨.pointer 106, 1, 8, .pointer none, false⟩ := by kernel_rfl
theorem tt18 : tt 18 = some ⟨.struct (fl 18), 1, 8, .agg #[.pointer none], false⟩ := by kernel_rfl
theorem zc18 : (Value.agg #[.pointer none]).cells.toList = [.pointer none] := by kernel_rfl
theorem fll18 : (fl 18).toList = [fd 18 0] := by kernel_rfl
theorem fl18_0 : (fl 18)[0]? = some (fd 18 0) := by kernel_rfl
theorem fdt18_0 : (fd 18 0).type = 17 := by kernel_rfl
theorem fdo18_0 : (fd 18 0).offset = 0 := by kernel_rfl
theorem tt19 : tt 19 = some ⟨.struct (fl 19), 1, 8, .agg #[.pointer none], false⟩ := by kernel_rfl
theorem fll19 : (fl 19).toList = [fd 19 0] := by kernel_rfl
theorem fl19_0 : (fl 19)[0]? = some (fd 19 0) := by kernel_rfl
theorem fdt19_0 : (fd 19 0).type = 17 := by kernel_rfl
theorem fdo19_0 : (fd 19 0).offset = 0 := by kernel_rfl
theorem tt21 : tt 21 = some ⟨.int .i32, 1, 4, .int .i32 0, false⟩ := by kernel_rfl
theorem tt22 : tt 22 = some ⟨.slice 52, 1, 24, .slice none 0 0, false⟩ := by kernel_rfl
theorem tt23 : tt 23 = some ⟨.array 4 3, 4, 32, .agg #[.int .i64 0, .int .i64 0, .int .i64 0, .int .i64 0], false⟩ := by kernel_rfl
theorem zc23 : (Value.agg #[.int .i64 0, .int .i64 0, .int .i64 0, .int .i64 0]).cells.toList = [.int .i64 0, .int .i64 0, .int .i64 0, .int .i64 0] := by kernel_rfl
theorem tt24 : tt 24 = some ⟨.slice 4, 1, 24, .slice none 0 0, false⟩ := by kernel_rfl
theorem tt25 : tt 25 = some ⟨.slice 31, 1, 24, .slice none 0 0, false⟩ := by kernel_rfl
theorem tt26 : tt 26 = some ⟨.struct (fl 26), 4, 64, .agg #[.int .i64 0, .int .i64 0, .slice none 0 0, .slice none 0 0], false⟩ := by kernel_rfl
theorem zc26 : (Value.agg #[.int .i64 0, .int .i64 0, .slice none 0 0, .slice none 0 0]).cells.toList = [.int .i64 0, .int .i64 0, .slice none 0 0, .slice none 0 0] := by kernel_rfl
theorem fll26 : (fl 26).toList = [fd 26 0, fd 26 1, fd 26 2, fd 26 3] := by kernel_rfl
theorem fl26_0 : (fl 26)[0]? = some (fd 26 0) := by kernel_rfl
theorem fdt26_0 : (fd 26 0).type = 3 := by kernel_rfl
theorem fdo26_0 : (fd 26 0).offset = 0 := by kernel_rfl
theorem fl26_1 : (fl 26)[1]? = some (fd 26 1) := by kernel_rfl
theorem fdt26_1 : (fd 26 1).type = 3 := by kernel_rfl
theorem fdo26_1 : (fd 26 1).offset = 1 := by kernel_rfl
theorem fl26_2 : (fl 26)[2]? = some (fd 26 2) := by kernel_rfl
theorem fdt26_2 : (fd 26 2).type = 24 := by kernel_rfl
theorem fdo26_2 : (fd 26 2).offset = 2 := by kernel_rfl
theorem fl26_3 : (fl 26)[3]? = some (fd 26 3) := by kernel_rfl
theorem fdt26_3 : (fd 26 3).type = 25 := by kernel_rfl
theorem fdo26_3 : (fd 26 3).offset = 3 := by kernel_rfl
theorem tt27 : tt 27 = some ⟨.struct (fl 27), 4, 64, .agg #[.int .i64 0, .int .i64 0, .slice none 0 0, .slice none 0 0], false⟩ := by kernel_rfl
theorem fll27 : (fl 27).toList = [fd 27 0, fd 27 1, fd 27 2, fd 27 3] := by kernel_rfl
theorem fl27_0 : (fl 27)[0]? = some (fd 27 0) := by kernel_rfl
theorem fdt27_0 : (fd 27 0).type = 3 := by kernel_rfl
theorem fdo27_0 : (fd 27 0).offset = 0 := by kernel_rfl
theorem fl27_1 : (fl 27)[1]? = some (fd 27 1) := by kernel_rfl
theorem fdt27_1 : (fd 27 1).type = 3 := by kernel_rfl
theorem fdo27_1 : (fd 27 1).offset = 1 := by kernel_rfl
theorem fl27_2 : (fl 27)[2]? = some (fd 27 2) := by kernel_rfl
theorem fdt27_2 : (fd 27 2).type = 24 := by kernel_rfl
theorem fdo27_2 : (fd 27 2).offset = 2 := by kernel_rfl
theorem fl27_3 : (fl 27)[3]? = some (fd 27 3) := by kernel_rfl
theorem fdt27_3 : (fd 27 3).type = 25 := by kernel_rfl
theorem fdo27_3 : (fd 27 3).offset = 3 := by kernel_rfl
theorem tt28 : tt 28 = some ⟨.func #[22, 3, 29] #[27] false, 1, 8, .nilFunc, false⟩ := by kernel_rfl
theorem tt29 : tt 29 = some ⟨.array 2 3, 2, 16, .agg #[.int .i64 0, .int .i64 0], false⟩ := by kernel_rfl
theorem zc29 : (Value.agg #[.int .i64 0, .int .i64 0]).cells.toList = [.int .i64 0, .int .i64 0] := by kernel_rfl
theorem tt30 : tt 30 = some ⟨.int .u64, 1, 8, .int .u64 0, false⟩ := by kernel_rfl
theorem tt31 : tt 31 = some ⟨.slice 3, 1, 24, .slice none 0 0, false⟩ := by kernel_rfl
theorem tt32 : tt 32 = some ⟨.int .i64, 1, 8, .int .i64 0, false⟩ := by kernel_rfl
theorem tt34 : tt 34 = some ⟨.func #[27, 27] #[31, 4, 32] false, 1, 8, .nilFunc, false⟩ := by kernel_rfl
theorem tt35 : tt 35 = some ⟨.func #[27, 27, 3, 3] #[4] false, 1, 8, .nilFunc, false⟩ := by kernel_rfl
theorem tt36 : tt 36 = some ⟨.func #[27, 27] #[4] false, 1, 8, .nilFunc, false⟩ := by kernel_rfl
theorem tt37 : tt 37 = some ⟨.func #[] #[4] false, 1, 8, .nilFunc, false⟩ := by kernel_rfl
theorem tt38 : tt 38 = some ⟨.func #[27, 3, 31] #[4] false, 1, 8, .nilFunc, false⟩ := by kernel_rfl
theorem tt39 : tt 39 = some ⟨.func #[3, 3] #[25] false, 1, 8, .nilFunc, false⟩ := by kernel_rfl
theorem tt40 : tt 40 = some ⟨.func #[31, 31] #[4] false, 1, 8, .nilFunc, false⟩ := by kernel_rfl
theorem tt41 : tt 41 = some ⟨.func #[22, 22, 23] #[4] false, 1, 8, .nilFunc, false⟩ := by kernel_rfl
theorem tt43 : tt 43 = some ⟨.func #[27] #[27, 32] false, 1, 8, .nilFunc, false⟩ := by kernel_rfl
theorem tt44 : tt 44 = some ⟨.func #[27] #[24] false, 1, 8, .nilFunc, false⟩ := by kernel_rfl
theorem tt45 : tt 45 = some ⟨.func #[22, 3, 29] #[4] false, 1, 8, .nilFunc, false⟩ := by kernel_rfl
theorem tt47 : tt 47 = some ⟨.func #[27, 27] #[4, 32] false, 1, 8, .nilFunc, false⟩ := by kernel_rfl
theorem tt48 : tt 48 = some ⟨.func #[3, 27, 27] #[27, 32] false, 1, 8, .nilFunc, false⟩ := by kernel_rfl
theorem tt49 : tt 49 = some ⟨.func #[27, 3, 31] #[3] false, 1, 8, .nilFunc, false⟩ := by kernel_rfl
theorem tt50 : tt 50 = some ⟨.func #[27, 31] #[27, 32] false, 1, 8, .nilFunc, false⟩ := by kernel_rfl
theorem tt51 : tt 51 = some ⟨.func #[22, 29, 31] #[4] false, 1, 8, .nilFunc, false⟩ := by kernel_rfl
theorem tt52 : tt 52 = some ⟨.array 3 3, 3, 24, .agg #[.int .i64 0, .int .i64 0, .int .i64 0], false⟩ := by kernel_rfl
theorem zc52 : (Value.agg #[.int .i64 0, .int .i64 0, .int .i64 0]).cells.toList = [.int .i64 0, .int .i64 0, .int .i64 0] := by kernel_rfl
theorem tt53 : tt 53 = some ⟨.func #[27] #[4] false, 1, 8, .nilFunc, false⟩ := by kernel_rfl
theorem tt54 : tt 54 = some ⟨.struct (fl 54), 4, 32, .agg #[.int .i64 0, .int .i64 0, .int .i64 0, .int .i64 0], true⟩ := by kernel_rfl
theorem fll54 : (fl 54).toList = [fd 54 0, fd 54 1, fd 54 2, fd 54 3] := by kernel_rfl
theorem fl54_0 : (fl 54)[0]? = some (fd 54 0) := by kernel_rfl
theorem fdt54_0 : (fd 54 0).type = 3 := by kernel_rfl
theorem fdo54_0 : (fd 54 0).offset = 0 := by kernel_rfl
theorem fl54_1 : (fl 54)[1]? = some (fd 54 1) := by kernel_rfl
theorem fdt54_1 : (fd 54 1).type = 3 := by kernel_rfl
theorem fdo54_1 : (fd 54 1).offset = 1 := by kernel_rfl
theorem fl54_2 : (fl 54)[2]? = some (fd 54 2) := by kernel_rfl
theorem fdt54_2 : (fd 54 2).type = 3 := by kernel_rfl
theorem fdo54_2 : (fd 54 2).offset = 2 := by kernel_rfl
theorem fl54_3 : (fl 54)[3]? = some (fd 54 3) := by kernel_rfl
theorem fdt54_3 : (fd 54 3).type = 3 := by kernel_rfl
theorem fdo54_3 : (fd 54 3).offset = 3 := by kernel_rfl
theorem tt55 : tt 55 = some ⟨.struct (fl 55), 4, 32, .agg #[.int .i64 0, .int .i64 0, .int .i64 0, .int .i64 0], true⟩ := by kernel_rfl
theorem fll55 : (fl 55).toList = [fd 55 0, fd 55 1, fd 55 2, fd 55 3] := by kernel_rfl
theorem fl55_0 : (fl 55)[0]? = some (fd 55 0) := by kernel_rfl
theorem fdt55_0 : (fd 55 0).type = 3 := by kernel_rfl
theorem fdo55_0 : (fd 55 0).offset = 0 := by kernel_rfl
theorem fl55_1 : (fl 55)[1]? = some (fd 55 1) := by kernel_rfl
theorem fdt55_1 : (fd 55 1).type = 3 := by kernel_rfl
theorem fdo55_1 : (fd 55 1).offset = 1 := by kernel_rfl
theorem fl55_2 : (fl 55)[2]? = some (fd 55 2) := by kernel_rfl
theorem fdt55_2 : (fd 55 2).type = 3 := by kernel_rfl
theorem fdo55_2 : (fd 55 2).offset = 2 := by kernel_rfl
theorem fl55_3 : (fl 55)[3]? = some (fd 55 3) := by kernel_rfl
theorem fdt55_3 : (fd 55 3).type = 3 := by kernel_rfl
theorem fdo55_3 : (fd 55 3).offset = 3 := by kernel_rfl
theorem tt56 : tt 56 = some ⟨.slice 55, 1, 24, .slice none 0 0, false⟩ := by kernel_rfl
theorem tt58 : tt 58 = some ⟨.func #[27, 3] #[4] false, 1, 8, .nilFunc, false⟩ := by kernel_rfl
theorem tt59 : tt 59 = some ⟨.func #[56, 3] #[31] false, 1, 8, .nilFunc, false⟩ := by kernel_rfl
theorem tt60 : tt 60 = some ⟨.func #[27, 3, 3] #[3] false, 1, 8, .nilFunc, false⟩ := by kernel_rfl
theorem tt61 : tt 61 = some ⟨.slice 29, 1, 24, .slice none 0 0, false⟩ := by kernel_rfl
theorem tt62 : tt 62 = some ⟨.func #[27, 3] #[3] false, 1, 8, .nilFunc, false⟩ := by kernel_rfl
theorem tt63 : tt 63 = some ⟨.func #[27] #[31] false, 1, 8, .nilFunc, false⟩ := by kernel_rfl
theorem tt66 : tt 66 = some ⟨.func #[24, 24] #[4] false, 1, 8, .nilFunc, false⟩ := by kernel_rfl
theorem tt67 : tt 67 = some ⟨.func #[25, 25, 40] #[4] false, 1, 8, .nilFunc, false⟩ := by kernel_rfl
theorem tt69 : tt 69 = some ⟨.func #[31, 3] #[31] false, 1, 8, .nilFunc, false⟩ := by kernel_rfl
theorem tt70 : tt 70 = some ⟨.func #[3, 4, 4] #[4] false, 1, 8, .nilFunc, false⟩ := by kernel_rfl
theorem tt71 : tt 71 = some ⟨.func #[3, 31] #[27, 32] false, 1, 8, .nilFunc, false⟩ := by kernel_rfl
theorem tt72 : tt 72 = some ⟨.func #[27, 31] #[3] false, 1, 8, .nilFunc, false⟩ := by kernel_rfl
theorem tt73 : tt 73 = some ⟨.func #[25, 76] #[4] false, 1, 8, .nilFunc, false⟩ := by kernel_rfl
theorem tt74 : tt 74 = some ⟨.func #[31, 75] #[4] false, 1, 8, .nilFunc, false⟩ := by kernel_rfl
theorem tt75 : tt 75 = some ⟨.func #[3] #[4] false, 1, 8, .nilFunc, false⟩ := by kernel_rfl
theorem tt76 : tt 76 = some ⟨.func #[31] #[4] false, 1, 8, .nilFunc, false⟩ := by kernel_rfl
theorem tt77 : tt 77 = some ⟨.func #[31] #[] false, 1, 8, .nilFunc, false⟩ := by kernel_rfl
theorem tt79 : tt 79 = some ⟨.func #[27, 31, 24, 3] #[9] false, 1, 8, .nilFunc, false⟩ := by kernel_rfl
theorem tt81 : tt 81 = some ⟨.func #[30, 30] #[30, 30] false, 1, 8, .nilFunc, false⟩ := by kernel_rfl
theorem tt82 : tt 82 = some ⟨.func #[25, 76] #[3] false, 1, 8, .nilFunc, false⟩ := by kernel_rfl
theorem tt83 : tt 83 = some ⟨.func #[31, 75] #[3] false, 1, 8, .nilFunc, false⟩ := by kernel_rfl
theorem tt84 : tt 84 = some ⟨.func #[24] #[24] false, 1, 8, .nilFunc, false⟩ := by kernel_rfl
theorem tt85 : tt 85 = some ⟨.slice 5, 1, 24, .slice none 0 0, false⟩ := by kernel_rfl
theorem tt86 : tt 86 = some ⟨.int .u32, 1, 4, .int .u32 0, false⟩ := by kernel_rfl
theorem tt88 : tt 88 = some ⟨.func #[86, 86] #[86, 86] false, 1, 8, .nilFunc, false⟩ := by kernel_rfl
theorem tt89 : tt 89 = some ⟨.int .u64, 1, 8, .int .u64 0, false⟩ := by kernel_rfl
theorem tt91 : tt 91 = some ⟨.func #[89, 89] #[89, 89] false, 1, 8, .nilFunc, false⟩ := by kernel_rfl
theorem tt92 : tt 92 = some ⟨.func #[] #[9] false, 1, 8, .nilFunc, false⟩ := by kernel_rfl
theorem tt93 : tt 93 = some ⟨.struct (fl 93), 4, 40, .agg #[.pointer none, .pointer none, .pointer none, .string ByteArray.empty], false⟩ := by kernel_rfl
theorem zc93 : (Value.agg #[.pointer none, .pointer none, .pointer none, .string ByteArray.empty]).cells.toList = [.pointer none, .pointer none, .pointer none, .string ByteArray.empty] := by kernel_rfl
theorem fll93 : (fl 93).toList = [fd 93 0, fd 93 1, fd 93 2, fd 93 3] := by kernel_rfl
theorem fl93_0 : (fl 93)[0]? = some (fd 93 0) := by kernel_rfl
theorem fdt93_0 : (fd 93 0).type = 17 := by kernel_rfl
theorem fdo93_0 : (fd 93 0).offset = 0 := by kernel_rfl
theorem fl93_1 : (fl 93)[1]? = some (fd 93 1) := by kernel_rfl
theorem fdt93_1 : (fd 93 1).type = 17 := by kernel_rfl
theorem fdo93_1 : (fd 93 1).offset = 1 := by kernel_rfl
theorem fl93_2 : (fl 93)[2]? = some (fd 93 2) := by kernel_rfl
theorem fdt93_2 : (fd 93 2).type = 17 := by kernel_rfl
theorem fdo93_2 : (fd 93 2).offset = 2 := by kernel_rfl
theorem fl93_3 : (fl 93)[3]? = some (fd 93 3) := by kernel_rfl
theorem fdt93_3 : (fd 93 3).type = 9 := by kernel_rfl
theorem fdo93_3 : (fd 93 3).offset = 3 := by kernel_rfl
theorem tt94 : tt 94 = some ⟨.struct (fl 94), 4, 40, .agg #[.pointer none, .pointer none, .pointer none, .string ByteArray.empty], false⟩ := by kernel_rfl
theorem fll94 : (fl 94).toList = [fd 94 0, fd 94 1, fd 94 2, fd 94 3] := by kernel_rfl
theorem fl94_0 : (fl 94)[0]? = some (fd 94 0) := by kernel_rfl
theorem fdt94_0 : (fd 94 0).type = 17 := by kernel_rfl
theorem fdo94_0 : (fd 94 0).offset = 0 := by kernel_rfl
theorem fl94_1 : (fl 94)[1]? = some (fd 94 1) := by kernel_rfl
theorem fdt94_1 : (fd 94 1).type = 17 := by kernel_rfl
theorem fdo94_1 : (fd 94 1).offset = 1 := by kernel_rfl
theorem fl94_2 : (fl 94)[2]? = some (fd 94 2) := by kernel_rfl
theorem fdt94_2 : (fd 94 2).type = 17 := by kernel_rfl
theorem fdo94_2 : (fd 94 2).offset = 2 := by kernel_rfl
theorem fl94_3 : (fl 94)[3]? = some (fd 94 3) := by kernel_rfl
theorem fdt94_3 : (fd 94 3).type = 9 := by kernel_rfl
theorem fdo94_3 : (fd 94 3).offset = 3 := by kernel_rfl
theorem tt98 : tt 98 = some ⟨.func #[] #[3] false, 1, 8, .nilFunc, false⟩ := by kernel_rfl
theorem tt99 : tt 99 = some ⟨.int .u8, 1, 1, .int .u8 0, false⟩ := by kernel_rfl
theorem tt100 : tt 100 = some ⟨.int .u8, 1, 1, .int .u8 0, false⟩ := by kernel_rfl
theorem tt101 : tt 101 = some ⟨.func #[107, 107] #[4] false, 1, 8, .nilFunc, false⟩ := by kernel_rfl
theorem tt102 : tt 102 = some ⟨.pointer 5, 1, 8, .pointer none, false⟩ := by kernel_rfl
theorem tt103 : tt 103 = some ⟨.int .i32, 1, 4, .int .i32 0, false⟩ := by kernel_rfl
theorem tt104 : tt 104 = some ⟨.int .i32, 1, 4, .int .i32 0, false⟩ := by kernel_rfl
theorem tt105 : tt 105 = some ⟨.struct (fl 105), 11, 48, .agg #[.int .u64 0, .int .u64 0, .int .u32 0, .int .u8 0, .int .u8 0, .int .u8 0, .int .u8 0, .nilFunc, .pointer none, .int .i32 0, .int .i32 0], false⟩ := by kernel_rfl
theorem zc105 : (Value.agg #[.int .u64 0, .int .u64 0, .int .u32 0, .int .u8 0, .int .u8 0, .int .u8 0, .int .u8 0, .nilFunc, .pointer none, .int .i32 0, .int .i32 0]).cells.toList = [.int .u64 0, .int .u64 0, .int .u32 0, .int .u8 0, .int .u8 0, .int .u8 0, .int .u8 0, .nilFunc, .pointer none, .int .i32 0, .int .i32 0] := by kernel_rfl
theorem fll105 : (fl 105).toList = [fd 105 0, fd 105 1, fd 105 2, fd 105 3, fd 105 4, fd 105 5, fd 105 6, fd 105 7, fd 105 8, fd 105 9, fd 105 10] := by kernel_rfl
theorem fl105_0 : (fl 105)[0]? = some (fd 105 0) := by kernel_rfl
theorem fdt105_0 : (fd 105 0).type = 12 := by kernel_rfl
theorem fdo105_0 : (fd 105 0).offset = 0 := by kernel_rfl
theorem fl105_1 : (fl 105)[1]? = some (fd 105 1) := by kernel_rfl
theorem fdt105_1 : (fd 105 1).type = 12 := by kernel_rfl
theorem fdo105_1 : (fd 105 1).offset = 1 := by kernel_rfl
theorem fl105_2 : (fl 105)[2]? = some (fd 105 2) := by kernel_rfl
theorem fdt105_2 : (fd 105 2).type = 86 := by kernel_rfl
theorem fdo105_2 : (fd 105 2).offset = 2 := by kernel_rfl
theorem fl105_3 : (fl 105)[3]? = some (fd 105 3) := by kernel_rfl
theorem fdt105_3 : (fd 105 3).type = 99 := by kernel_rfl
theorem fdo105_3 : (fd 105 3).offset = 3 := by kernel_rfl
theorem fl105_4 : (fl 105)[4]? = some (fd 105 4) := by kernel_rfl
theorem fdt105_4 : (fd 105 4).type = 5 := by kernel_rfl
theorem fdo105_4 : (fd 105 4).offset = 4 := by kernel_rfl
theorem fl105_5 : (fl 105)[5]? = some (fd 105 5) := by kernel_rfl
theorem fdt105_5 : (fd 105 5).type = 5 := by kernel_rfl
theorem fdo105_5 : (fd 105 5).offset = 5 := by kernel_rfl
theorem fl105_6 : (fl 105)[6]? = some (fd 105 6) := by kernel_rfl
theorem fdt105_6 : (fd 105 6).type = 100 := by kernel_rfl
theorem fdo105_6 : (fd 105 6).offset = 6 := by kernel_rfl
theorem fl105_7 : (fl 105)[7]? = some (fd 105 7) := by kernel_rfl
theorem fdt105_7 : (fd 105 7).type = 101 := by kernel_rfl
theorem fdo105_7 : (fd 105 7).offset = 7 := by kernel_rfl
theorem fl105_8 : (fl 105)[8]? = some (fd 105 8) := by kernel_rfl
theorem fdt105_8 : (fd 105 8).type = 102 := by kernel_rfl
theorem fdo105_8 : (fd 105 8).offset = 8 := by kernel_rfl
theorem fl105_9 : (fl 105)[9]? = some (fd 105 9) := by kernel_rfl
theorem fdt105_9 : (fd 105 9).type = 103 := by kernel_rfl
theorem fdo105_9 : (fd 105 9).offset = 9 := by kernel_rfl
theorem fl105_10 : (fl 105)[10]? = some (fd 105 10) := by kernel_rfl
theorem fdt105_10 : (fd 105 10).type = 104 := by kernel_rfl
theorem fdo105_10 : (fd 105 10).offset = 10 := by kernel_rfl
theorem tt106 : tt 106 = some ⟨.struct (fl 106), 11, 48, .agg #[.int .u64 0, .int .u64 0, .int .u32 0, .int .u8 0, .int .u8 0, .int .u8 0, .int .u8 0, .nilFunc, .pointer none, .int .i32 0, .int .i32 0], false⟩ := by kernel_rfl
theorem fll106 : (fl 106).toList = [fd 106 0, fd 106 1, fd 106 2, fd 106 3, fd 106 4, fd 106 5, fd 106 6, fd 106 7, fd 106 8, fd 106 9, fd 106 10] := by kernel_rfl
theorem fl106_0 : (fl 106)[0]? = some (fd 106 0) := by kernel_rfl
theorem fdt106_0 : (fd 106 0).type = 12 := by kernel_rfl
theorem fdo106_0 : (fd 106 0).offset = 0 := by kernel_rfl
theorem fl106_1 : (fl 106)[1]? = some (fd 106 1) := by kernel_rfl
theorem fdt106_1 : (fd 106 1).type = 12 := by kernel_rfl
theorem fdo106_1 : (fd 106 1).offset = 1 := by kernel_rfl
theorem fl106_2 : (fl 106)[2]? = some (fd 106 2) := by kernel_rfl
theorem fdt106_2 : (fd 106 2).type = 86 := by kernel_rfl
theorem fdo106_2 : (fd 106 2).offset = 2 := by kernel_rfl
theorem fl106_3 : (fl 106)[3]? = some (fd 106 3) := by kernel_rfl
theorem fdt106_3 : (fd 106 3).type = 99 := by kernel_rfl
theorem fdo106_3 : (fd 106 3).offset = 3 := by kernel_rfl
theorem fl106_4 : (fl 106)[4]? = some (fd 106 4) := by kernel_rfl
theorem fdt106_4 : (fd 106 4).type = 5 := by kernel_rfl
theorem fdo106_4 : (fd 106 4).offset = 4 := by kernel_rfl
theorem fl106_5 : (fl 106)[5]? = some (fd 106 5) := by kernel_rfl
theorem fdt106_5 : (fd 106 5).type = 5 := by kernel_rfl
theorem fdo106_5 : (fd 106 5).offset = 5 := by kernel_rfl
theorem fl106_6 : (fl 106)[6]? = some (fd 106 6) := by kernel_rfl
theorem fdt106_6 : (fd 106 6).type = 100 := by kernel_rfl
theorem fdo106_6 : (fd 106 6).offset = 6 := by kernel_rfl
theorem fl106_7 : (fl 106)[7]? = some (fd 106 7) := by kernel_rfl
theorem fdt106_7 : (fd 106 7).type = 101 := by kernel_rfl
theorem fdo106_7 : (fd 106 7).offset = 7 := by kernel_rfl
theorem fl106_8 : (fl 106)[8]? = some (fd 106 8) := by kernel_rfl
theorem fdt106_8 : (fd 106 8).type = 102 := by kernel_rfl
theorem fdo106_8 : (fd 106 8).offset = 8 := by kernel_rfl
theorem fl106_9 : (fl 106)[9]? = some (fd 106 9) := by kernel_rfl
theorem fdt106_9 : (fd 106 9).type = 103 := by kernel_rfl
theorem fdo106_9 : (fd 106 9).offset = 9 := by kernel_rfl
theorem fl106_10 : (fl 106)[10]? = some (fd 106 10) := by kernel_rfl
theorem fdt106_10 : (fd 106 10).type = 104 := by kernel_rfl
theorem fdo106_10 : (fd 106 10).offset = 10 := by kernel_rfl
theorem fnok7 : FnOk Try.prog 7 := ⟨_, Try.func7, by kernel_rfl, by kernel_rfl⟩
theorem fnok12 : FnOk Try.prog 12 := ⟨_, Try.func12, by kernel_rfl, by kernel_rfl⟩
theorem fnok13 : FnOk Try.prog 13 := ⟨_, Try.func13, by kernel_rfl, by kernel_rfl⟩
theorem fnok15 : FnOk Try.prog 15 := ⟨_, Try.func15, by kernel_rfl, by kernel_rfl⟩
theorem fnok16 : FnOk Try.prog 16 := ⟨_, Try.func16, by kernel_rfl, by kernel_rfl⟩
theorem fnok19 : FnOk Try.prog 19 := ⟨_, Try.func19, by kernel_rfl, by kernel_rfl⟩
theorem fnok20 : FnOk Try.prog 20 := ⟨_, Try.func20, by kernel_rfl, by kernel_rfl⟩
theorem fnok21 : FnOk Try.prog 21 := ⟨_, Try.func21, by kernel_rfl, by kernel_rfl⟩
theorem fnok22 : FnOk Try.prog 22 := ⟨_, Try.func22, by kernel_rfl, by kernel_rfl⟩
theorem fnok23 : FnOk Try.prog 23 := ⟨_, Try.func23, by kernel_rfl, by kernel_rfl⟩
theorem fnok24 : FnOk Try.prog 24 := ⟨_, Try.func24, by kernel_rfl, by kernel_rfl⟩
theorem fnok25 : FnOk Try.prog 25 := ⟨_, Try.func25, by kernel_rfl, by kernel_rfl⟩
theorem fnok28 : FnOk Try.prog 28 := ⟨_, Try.func28, by kernel_rfl, by kernel_rfl⟩
theorem fnok30 : FnOk Try.prog 30 := ⟨_, Try.func30, by kernel_rfl, by kernel_rfl⟩
theorem fnok31 : FnOk Try.prog 31 := ⟨_, Try.func31, by kernel_rfl, by kernel_rfl⟩
theorem fnok35 : FnOk Try.prog 35 := ⟨_, Try.func35, by kernel_rfl, by kernel_rfl⟩
theorem fnok36 : FnOk Try.prog 36 := ⟨_, Try.func36, by kernel_rfl, by kernel_rfl⟩
theorem fnok37 : FnOk Try.prog 37 := ⟨_, Try.func37, by kernel_rfl, by kernel_rfl⟩
theorem fnok38 : FnOk Try.prog 38 := ⟨_, Try.func38, by kernel_rfl, by kernel_rfl⟩
theorem fnok39 : FnOk Try.prog 39 := ⟨_, Try.func39, by kernel_rfl, by kernel_rfl⟩
theorem fnok40 : FnOk Try.prog 40 := ⟨_, Try.func40, by kernel_rfl, by kernel_rfl⟩
theorem fnok41 : FnOk Try.prog 41 := ⟨_, Try.func41, by kernel_rfl, by kernel_rfl⟩
theorem fnok42 : FnOk Try.prog 42 := ⟨_, Try.func42, by kernel_rfl, by kernel_rfl⟩
theorem fnok43 : FnOk Try.prog 43 := ⟨_, Try.func43, by kernel_rfl, by kernel_rfl⟩
theorem fnok45 : FnOk Try.prog 45 := ⟨_, Try.func45, by kernel_rfl, by kernel_rfl⟩
theorem fnok46 : FnOk Try.prog 46 := ⟨_, Try.func46, by kernel_rfl, by kernel_rfl⟩
theorem fnok47 : FnOk Try.prog 47 := ⟨_, Try.func47, by kernel_rfl, by kernel_rfl⟩
theorem fnok48 : FnOk Try.prog 48 := ⟨_, Try.func48, by kernel_rfl, by kernel_rfl⟩
theorem fnok49 : FnOk Try.prog 49 := ⟨_, Try.func49, by kernel_rfl, by kernel_rfl⟩
theorem fnok50 : FnOk Try.prog 50 := ⟨_, Try.func50, by kernel_rfl, by kernel_rfl⟩
theorem fnok51 : FnOk Try.prog 51 := ⟨_, Try.func51, by kernel_rfl, by kernel_rfl⟩
theorem fnok52 : FnOk Try.prog 52 := ⟨_, Try.func52, by kernel_rfl, by kernel_rfl⟩
theorem fnok54 : FnOk Try.prog 54 := ⟨_, Try.func54, by kernel_rfl, by kernel_rfl⟩
theorem tyA0 : (tt 1 = some ⟨.func #[] #[] false, 1, 8, .nilFunc, false⟩) ∧ (tt 2 = some ⟨.int .i64, 1, 8, .int .i64 0, false⟩) ∧ (tt 3 = some ⟨.int .i64, 1, 8, .int .i64 0, false⟩) ∧ (tt 4 = some ⟨.bool, 1, 1, .bool false, false⟩) ∧ (tt 5 = some ⟨.int .u8, 1, 1, .int .u8 0, false⟩) ∧ (tt 6 = some ⟨.int .u8, 1, 1, .int .u8 0, false⟩) ∧ (tt 7 = some ⟨.struct (fl 7), 4, 24, .agg #[.int .i64 0, .int .i64 0, .bool false, .int .u8 0], false⟩) ∧ ((Value.agg #[.int .i64 0, .int .i64 0, .bool false, .int .u8 0]).cells.toList = [.int .i64 0, .int .i64 0, .bool false, .int .u8 0]) ∧ ((fl 7).toList = [fd 7 0, fd 7 1, fd 7 2, fd 7 3]) ∧ ((fl 7)[0]? = some (fd 7 0)) ∧ ((fd 7 0).type = 2) ∧ ((fd 7 0).offset = 0) ∧ ((fl 7)[1]? = some (fd 7 1)) ∧ ((fd 7 1).type = 3) ∧ ((fd 7 1).offset = 1) ∧ ((fl 7)[2]? = some (fd 7 2)) ∧ ((fd 7 2).type = 4) ∧ ((fd 7 2).offset = 2) ∧ ((fl 7)[3]? = some (fd 7 3)) ∧ ((fd 7 3).type = 6) ∧ ((fd 7 3).offset = 3) ∧ (tt 8 = some ⟨.struct (fl 8), 4, 24, .agg #[.int .i64 0, .int .i64 0, .bool false, .int .u8 0], false⟩) ∧ ((fl 8).toList = [fd 8 0, fd 8 1, fd 8 2, fd 8 3]) ∧ ((fl 8)[0]? = some (fd 8 0)) ∧ ((fd 8 0).type = 2) ∧ ((fd 8 0).offset = 0) ∧ ((fl 8)[1]? = some (fd 8 1)) ∧ ((fd 8 1).type = 3) ∧ ((fd 8 1).offset = 1) ∧ ((fl 8)[2]? = some (fd 8 2)) ∧ ((fd 8 2).type = 4) ∧ ((fd 8 2).offset = 2) ∧ ((fl 8)[3]? = some (fd 8 3)) ∧ ((fd 8 3).type = 6) ∧ ((fd 8 3).offset = 3) ∧ (tt 9 = some ⟨.string, 1, 16, .string ByteArray.empty, false⟩) ∧ (tt 10 = some ⟨.string, 1, 16, .string ByteArray.empty, false⟩) ∧ (tt 11 = some ⟨.string, 1, 16, .string ByteArray.empty, false⟩) ∧ (tt 12 = some ⟨.int .u64, 1, 8, .int .u64 0, false⟩) ∧ (tt 13 = some ⟨.struct (fl 13), 2, 24, .agg #[.string ByteArray.empty, .int .u64 0], false⟩) := ⟨tt1, tt2, tt3, tt4, tt5, tt6, tt7, zc7, fll7, fl7_0, fdt7_0, fdo7_0, fl7_1, fdt7_1, fdo7_1, fl7_2, fdt7_2, fdo7_2, fl7_3, fdt7_3, fdo7_3, tt8, fll8, fl8_0, fdt8_0, fdo8_0, fl8_1, fdt8_1, fdo8_1, fl8_2, fdt8_2, fdo8_2, fl8_3, fdt8_3, fdo8_3, tt9, tt10, tt11, tt12, tt13⟩
theorem tyA1 : ((Value.agg #[.string ByteArray.empty, .int .u64 0]).cells.toList = [.string ByteArray.empty, .int .u64 0]) ∧ ((fl 13).toList = [fd 13 0, fd 13 1]) ∧ ((fl 13)[0]? = some (fd 13 0)) ∧ ((fd 13 0).type = 9) ∧ ((fd 13 0).offset = 0) ∧ ((fl 13)[1]? = some (fd 13 1)) ∧ ((fd 13 1).type = 12) ∧ ((fd 13 1).offset = 1) ∧ (tt 14 = some ⟨.struct (fl 14), 2, 24, .agg #[.string ByteArray.empty, .int .u64 0], false⟩) ∧ ((fl 14).toList = [fd 14 0, fd 14 1]) ∧ ((fl 14)[0]? = some (fd 14 0)) ∧ ((fd 14 0).type = 9) ∧ ((fd 14 0).offset = 0) ∧ ((fl 14)[1]? = some (fd 14 1)) ∧ ((fd 14 1).type = 12) ∧ ((fd 14 1).offset = 1) ∧ (tt 15 = some ⟨.pointer 94, 1, 8, .pointer none, false⟩) ∧ (tt 16 = some ⟨.pointer 97, 1, 8, .pointer none, false⟩) ∧ (tt 17 = some ⟨.pointer 106, 1, 8, .pointer none, false⟩) ∧ (tt 18 = some ⟨.struct (fl 18), 1, 8, .agg #[.pointer none], false⟩) ∧ ((Value.agg #[.pointer none]).cells.toList = [.pointer none]) ∧ ((fl 18).toList = [fd 18 0]) ∧ ((fl 18)[0]? = some (fd 18 0)) ∧ ((fd 18 0).type = 17) ∧ ((fd 18 0).offset = 0) ∧ (tt 19 = some ⟨.struct (fl 19), 1, 8, .agg #[.pointer none], false⟩) ∧ ((fl 19).toList = [fd 19 0]) ∧ ((fl 19)[0]? = some (fd 19 0)) ∧ ((fd 19 0).type = 17) ∧ ((fd 19 0).offset = 0) ∧ (tt 21 = some ⟨.int .i32, 1, 4, .int .i32 0, false⟩) ∧ (tt 22 = some ⟨.slice 52, 1, 24, .slice none 0 0, false⟩) ∧ (tt 23 = some ⟨.array 4 3, 4, 32, .agg #[.int .i64 0, .int .i64 0, .int .i64 0, .int .i64 0], false⟩) ∧ ((Value.agg #[.int .i64 0, .int .i64 0, .int .i64 0, .int .i64 0]).cells.toList = [.int .i64 0, .int .i64 0, .int .i64 0, .int .i64 0]) ∧ (tt 24 = some ⟨.slice 4, 1, 24, .slice none 0 0, false⟩) ∧ (tt 25 = some ⟨.slice 31, 1, 24, .slice none 0 0, false⟩) ∧ (tt 26 = some ⟨.struct (fl 26), 4, 64, .agg #[.int .i64 0, .int .i64 0, .slice none 0 0, .slice none 0 0], false⟩) ∧ ((Value.agg #[.int .i64 0, .int .i64 0, .slice none 0 0, .slice none 0 0]).cells.toList = [.int .i64 0, .int .i64 0, .slice none 0 0, .slice none 0 0]) ∧ ((fl 26).toList = [fd 26 0, fd 26 1, fd 26 2, fd 26 3]) ∧ ((fl 26)[0]? = some (fd 26 0)) := ⟨zc13, fll13, fl13_0, fdt13_0, fdo13_0, fl13_1, fdt13_1, fdo13_1, tt14, fll14, fl14_0, fdt14_0, fdo14_0, fl14_1, fdt14_1, fdo14_1, tt15, tt16, tt17, tt18, zc18, fll18, fl18_0, fdt18_0, fdo18_0, tt19, fll19, fl19_0, fdt19_0, fdo19_0, tt21, tt22, tt23, zc23, tt24, tt25, tt26, zc26, fll26, fl26_0⟩
theorem tyA2 : ((fd 26 0).type = 3) ∧ ((fd 26 0).offset = 0) ∧ ((fl 26)[1]? = some (fd 26 1)) ∧ ((fd 26 1).type = 3) ∧ ((fd 26 1).offset = 1) ∧ ((fl 26)[2]? = some (fd 26 2)) ∧ ((fd 26 2).type = 24) ∧ ((fd 26 2).offset = 2) ∧ ((fl 26)[3]? = some (fd 26 3)) ∧ ((fd 26 3).type = 25) ∧ ((fd 26 3).offset = 3) ∧ (tt 27 = some ⟨.struct (fl 27), 4, 64, .agg #[.int .i64 0, .int .i64 0, .slice none 0 0, .slice none 0 0], false⟩) ∧ ((fl 27).toList = [fd 27 0, fd 27 1, fd 27 2, fd 27 3]) ∧ ((fl 27)[0]? = some (fd 27 0)) ∧ ((fd 27 0).type = 3) ∧ ((fd 27 0).offset = 0) ∧ ((fl 27)[1]? = some (fd 27 1)) ∧ ((fd 27 1).type = 3) ∧ ((fd 27 1).offset = 1) ∧ ((fl 27)[2]? = some (fd 27 2)) ∧ ((fd 27 2).type = 24) ∧ ((fd 27 2).offset = 2) ∧ ((fl 27)[3]? = some (fd 27 3)) ∧ ((fd 27 3).type = 25) ∧ ((fd 27 3).offset = 3) ∧ (tt 28 = some ⟨.func #[22, 3, 29] #[27] false, 1, 8, .nilFunc, false⟩) ∧ (tt 29 = some ⟨.array 2 3, 2, 16, .agg #[.int .i64 0, .int .i64 0], false⟩) ∧ ((Value.agg #[.int .i64 0, .int .i64 0]).cells.toList = [.int .i64 0, .int .i64 0]) ∧ (tt 30 = some ⟨.int .u64, 1, 8, .int .u64 0, false⟩) ∧ (tt 31 = some ⟨.slice 3, 1, 24, .slice none 0 0, false⟩) ∧ (tt 32 = some ⟨.int .i64, 1, 8, .int .i64 0, false⟩) ∧ (tt 34 = some ⟨.func #[27, 27] #[31, 4, 32] false, 1, 8, .nilFunc, false⟩) ∧ (tt 35 = some ⟨.func #[27, 27, 3, 3] #[4] false, 1, 8, .nilFunc, false⟩) ∧ (tt 36 = some ⟨.func #[27, 27] #[4] false, 1, 8, .nilFunc, false⟩) ∧ (tt 37 = some ⟨.func #[] #[4] false, 1, 8, .nilFunc, false⟩) ∧ (tt 38 = some ⟨.func #[27, 3, 31] #[4] false, 1, 8, .nilFunc, false⟩) ∧ (tt 39 = some ⟨.func #[3, 3] #[25] false, 1, 8, .nilFunc, false⟩) ∧ (tt 40 = some ⟨.func #[31, 31] #[4] false, 1, 8, .nilFunc, false⟩) ∧ (tt 41 = some ⟨.func #[22, 22, 23] #[4] false, 1, 8, .nilFunc, false⟩) ∧ (tt 43 = some ⟨.func #[27] #[27, 32] false, 1, 8, .nilFunc, false⟩) := ⟨fdt26_0, fdo26_0, fl26_1, fdt26_1, fdo26_1, fl26_2, fdt26_2, fdo26_2, fl26_3, fdt26_3, fdo26_3, tt27, fll27, fl27_0, fdt27_0, fdo27_0, fl27_1, fdt27_1, fdo27_1, fl27_2, fdt27_2, fdo27_2, fl27_3, fdt27_3, fdo27_3, tt28, tt29, zc29, tt30, tt31, tt32, tt34, tt35, tt36, tt37, tt38, tt39, tt40, tt41, tt43⟩
theorem tyA3 : (tt 44 = some ⟨.func #[27] #[24] false, 1, 8, .nilFunc, false⟩) ∧ (tt 45 = some ⟨.func #[22, 3, 29] #[4] false, 1, 8, .nilFunc, false⟩) ∧ (tt 47 = some ⟨.func #[27, 27] #[4, 32] false, 1, 8, .nilFunc, false⟩) ∧ (tt 48 = some ⟨.func #[3, 27, 27] #[27, 32] false, 1, 8, .nilFunc, false⟩) ∧ (tt 49 = some ⟨.func #[27, 3, 31] #[3] false, 1, 8, .nilFunc, false⟩) ∧ (tt 50 = some ⟨.func #[27, 31] #[27, 32] false, 1, 8, .nilFunc, false⟩) ∧ (tt 51 = some ⟨.func #[22, 29, 31] #[4] false, 1, 8, .nilFunc, false⟩) ∧ (tt 52 = some ⟨.array 3 3, 3, 24, .agg #[.int .i64 0, .int .i64 0, .int .i64 0], false⟩) ∧ ((Value.agg #[.int .i64 0, .int .i64 0, .int .i64 0]).cells.toList = [.int .i64 0, .int .i64 0, .int .i64 0]) ∧ (tt 53 = some ⟨.func #[27] #[4] false, 1, 8, .nilFunc, false⟩) ∧ (tt 54 = some ⟨.struct (fl 54), 4, 32, .agg #[.int .i64 0, .int .i64 0, .int .i64 0, .int .i64 0], true⟩) ∧ ((fl 54).toList = [fd 54 0, fd 54 1, fd 54 2, fd 54 3]) ∧ ((fl 54)[0]? = some (fd 54 0)) ∧ ((fd 54 0).type = 3) ∧ ((fd 54 0).offset = 0) ∧ ((fl 54)[1]? = some (fd 54 1)) ∧ ((fd 54 1).type = 3) ∧ ((fd 54 1).offset = 1) ∧ ((fl 54)[2]? = some (fd 54 2)) ∧ ((fd 54 2).type = 3) ∧ ((fd 54 2).offset = 2) ∧ ((fl 54)[3]? = some (fd 54 3)) ∧ ((fd 54 3).type = 3) ∧ ((fd 54 3).offset = 3) ∧ (tt 55 = some ⟨.struct (fl 55), 4, 32, .agg #[.int .i64 0, .int .i64 0, .int .i64 0, .int .i64 0], true⟩) ∧ ((fl 55).toList = [fd 55 0, fd 55 1, fd 55 2, fd 55 3]) ∧ ((fl 55)[0]? = some (fd 55 0)) ∧ ((fd 55 0).type = 3) ∧ ((fd 55 0).offset = 0) ∧ ((fl 55)[1]? = some (fd 55 1)) ∧ ((fd 55 1).type = 3) ∧ ((fd 55 1).offset = 1) ∧ ((fl 55)[2]? = some (fd 55 2)) ∧ ((fd 55 2).type = 3) ∧ ((fd 55 2).offset = 2) ∧ ((fl 55)[3]? = some (fd 55 3)) ∧ ((fd 55 3).type = 3) ∧ ((fd 55 3).offset = 3) ∧ (tt 56 = some ⟨.slice 55, 1, 24, .slice none 0 0, false⟩) ∧ (tt 58 = some ⟨.func #[27, 3] #[4] false, 1, 8, .nilFunc, false⟩) := ⟨tt44, tt45, tt47, tt48, tt49, tt50, tt51, tt52, zc52, tt53, tt54, fll54, fl54_0, fdt54_0, fdo54_0, fl54_1, fdt54_1, fdo54_1, fl54_2, fdt54_2, fdo54_2, fl54_3, fdt54_3, fdo54_3, tt55, fll55, fl55_0, fdt55_0, fdo55_0, fl55_1, fdt55_1, fdo55_1, fl55_2, fdt55_2, fdo55_2, fl55_3, fdt55_3, fdo55_3, tt56, tt58⟩
theorem tyA4 : (tt 59 = some ⟨.func #[56, 3] #[31] false, 1, 8, .nilFunc, false⟩) ∧ (tt 60 = some ⟨.func #[27, 3, 3] #[3] false, 1, 8, .nilFunc, false⟩) ∧ (tt 61 = some ⟨.slice 29, 1, 24, .slice none 0 0, false⟩) ∧ (tt 62 = some ⟨.func #[27, 3] #[3] false, 1, 8, .nilFunc, false⟩) ∧ (tt 63 = some ⟨.func #[27] #[31] false, 1, 8, .nilFunc, false⟩) ∧ (tt 66 = some ⟨.func #[24, 24] #[4] false, 1, 8, .nilFunc, false⟩) ∧ (tt 67 = some ⟨.func #[25, 25, 40] #[4] false, 1, 8, .nilFunc, false⟩) ∧ (tt 69 = some ⟨.func #[31, 3] #[31] false, 1, 8, .nilFunc, false⟩) ∧ (tt 70 = some ⟨.func #[3, 4, 4] #[4] false, 1, 8, .nilFunc, false⟩) ∧ (tt 71 = some ⟨.func #[3, 31] #[27, 32] false, 1, 8, .nilFunc, false⟩) ∧ (tt 72 = some ⟨.func #[27, 31] #[3] false, 1, 8, .nilFunc, false⟩) ∧ (tt 73 = some ⟨.func #[25, 76] #[4] false, 1, 8, .nilFunc, false⟩) ∧ (tt 74 = some ⟨.func #[31, 75] #[4] false, 1, 8, .nilFunc, false⟩) ∧ (tt 75 = some ⟨.func #[3] #[4] false, 1, 8, .nilFunc, false⟩) ∧ (tt 76 = some ⟨.func #[31] #[4] false, 1, 8, .nilFunc, false⟩) ∧ (tt 77 = some ⟨.func #[31] #[] false, 1, 8, .nilFunc, false⟩) ∧ (tt 79 = some ⟨.func #[27, 31, 24, 3] #[9] false, 1, 8, .nilFunc, false⟩) ∧ (tt 81 = some ⟨.func #[30, 30] #[30, 30] false, 1, 8, .nilFunc, false⟩) ∧ (tt 82 = some ⟨.func #[25, 76] #[3] false, 1, 8, .nilFunc, false⟩) ∧ (tt 83 = some ⟨.func #[31, 75] #[3] false, 1, 8, .nilFunc, false⟩) ∧ (tt 84 = some ⟨.func #[24] #[24] false, 1, 8, .nilFunc, false⟩) ∧ (tt 85 = some ⟨.slice 5, 1, 24, .slice none 0 0, false⟩) ∧ (tt 86 = some ⟨.int .u32, 1, 4, .int .u32 0, false⟩) ∧ (tt 88 = some ⟨.func #[86, 86] #[86, 86] false, 1, 8, .nilFunc, false⟩) ∧ (tt 89 = some ⟨.int .u64, 1, 8, .int .u64 0, false⟩) ∧ (tt 91 = some ⟨.func #[89, 89] #[89, 89] false, 1, 8, .nilFunc, false⟩) ∧ (tt 92 = some ⟨.func #[] #[9] false, 1, 8, .nilFunc, false⟩) ∧ (tt 93 = some ⟨.struct (fl 93), 4, 40, .agg #[.pointer none, .pointer none, .pointer none, .string ByteArray.empty], false⟩) ∧ ((Value.agg #[.pointer none, .pointer none, .pointer none, .string ByteArray.empty]).cells.toList = [.pointer none, .pointer none, .pointer none, .string ByteArray.empty]) ∧ ((fl 93).toList = [fd 93 0, fd 93 1, fd 93 2, fd 93 3]) ∧ ((fl 93)[0]? = some (fd 93 0)) ∧ ((fd 93 0).type = 17) ∧ ((fd 93 0).offset = 0) ∧ ((fl 93)[1]? = some (fd 93 1)) ∧ ((fd 93 1).type = 17) ∧ ((fd 93 1).offset = 1) ∧ ((fl 93)[2]? = some (fd 93 2)) ∧ ((fd 93 2).type = 17) ∧ ((fd 93 2).offset = 2) ∧ ((fl 93)[3]? = some (fd 93 3)) := ⟨tt59, tt60, tt61, tt62, tt63, tt66, tt67, tt69, tt70, tt71, tt72, tt73, tt74, tt75, tt76, tt77, tt79, tt81, tt82, tt83, tt84, tt85, tt86, tt88, tt89, tt91, tt92, tt93, zc93, fll93, fl93_0, fdt93_0, fdo93_0, fl93_1, fdt93_1, fdo93_1, fl93_2, fdt93_2, fdo93_2, fl93_3⟩
theorem tyA5 : ((fd 93 3).type = 9) ∧ ((fd 93 3).offset = 3) ∧ (tt 94 = some ⟨.struct (fl 94), 4, 40, .agg #[.pointer none, .pointer none, .pointer none, .string ByteArray.empty], false⟩) ∧ ((fl 94).toList = [fd 94 0, fd 94 1, fd 94 2, fd 94 3]) ∧ ((fl 94)[0]? = some (fd 94 0)) ∧ ((fd 94 0).type = 17) ∧ ((fd 94 0).offset = 0) ∧ ((fl 94)[1]? = some (fd 94 1)) ∧ ((fd 94 1).type = 17) ∧ ((fd 94 1).offset = 1) ∧ ((fl 94)[2]? = some (fd 94 2)) ∧ ((fd 94 2).type = 17) ∧ ((fd 94 2).offset = 2) ∧ ((fl 94)[3]? = some (fd 94 3)) ∧ ((fd 94 3).type = 9) ∧ ((fd 94 3).offset = 3) ∧ (tt 98 = some ⟨.func #[] #[3] false, 1, 8, .nilFunc, false⟩) ∧ (tt 99 = some ⟨.int .u8, 1, 1, .int .u8 0, false⟩) ∧ (tt 100 = some ⟨.int .u8, 1, 1, .int .u8 0, false⟩) ∧ (tt 101 = some ⟨.func #[107, 107] #[4] false, 1, 8, .nilFunc, false⟩) ∧ (tt 102 = some ⟨.pointer 5, 1, 8, .pointer none, false⟩) ∧ (tt 103 = some ⟨.int .i32, 1, 4, .int .i32 0, false⟩) ∧ (tt 104 = some ⟨.int .i32, 1, 4, .int .i32 0, false⟩) ∧ (tt 105 = some ⟨.struct (fl 105), 11, 48, .agg #[.int .u64 0, .int .u64 0, .int .u32 0, .int .u8 0, .int .u8 0, .int .u8 0, .int .u8 0, .nilFunc, .pointer none, .int .i32 0, .int .i32 0], false⟩) ∧ ((Value.agg #[.int .u64 0, .int .u64 0, .int .u32 0, .int .u8 0, .int .u8 0, .int .u8 0, .int .u8 0, .nilFunc, .pointer none, .int .i32 0, .int .i32 0]).cells.toList = [.int .u64 0, .int .u64 0, .int .u32 0, .int .u8 0, .int .u8 0, .int .u8 0, .int .u8 0, .nilFunc, .pointer none, .int .i32 0, .int .i32 0]) ∧ ((fl 105).toList = [fd 105 0, fd 105 1, fd 105 2, fd 105 3, fd 105 4, fd 105 5, fd 105 6, fd 105 7, fd 105 8, fd 105 9, fd 105 10]) ∧ ((fl 105)[0]? = some (fd 105 0)) ∧ ((fd 105 0).type = 12) ∧ ((fd 105 0).offset = 0) ∧ ((fl 105)[1]? = some (fd 105 1)) ∧ ((fd 105 1).type = 12) ∧ ((fd 105 1).offset = 1) ∧ ((fl 105)[2]? = some (fd 105 2)) ∧ ((fd 105 2).type = 86) ∧ ((fd 105 2).offset = 2) ∧ ((fl 105)[3]? = some (fd 105 3)) ∧ ((fd 105 3).type = 99) ∧ ((fd 105 3).offset = 3) ∧ ((fl 105)[4]? = some (fd 105 4)) ∧ ((fd 105 4).type = 5) := ⟨fdt93_3, fdo93_3, tt94, fll94, fl94_0, fdt94_0, fdo94_0, fl94_1, fdt94_1, fdo94_1, fl94_2, fdt94_2, fdo94_2, fl94_3, fdt94_3, fdo94_3, tt98, tt99, tt100, tt101, tt102, tt103, tt104, tt105, zc105, fll105, fl105_0, fdt105_0, fdo105_0, fl105_1, fdt105_1, fdo105_1, fl105_2, fdt105_2, fdo105_2, fl105_3, fdt105_3, fdo105_3, fl105_4, fdt105_4⟩
theorem tyA6 : ((fd 105 4).offset = 4) ∧ ((fl 105)[5]? = some (fd 105 5)) ∧ ((fd 105 5).type = 5) ∧ ((fd 105 5).offset = 5) ∧ ((fl 105)[6]? = some (fd 105 6)) ∧ ((fd 105 6).type = 100) ∧ ((fd 105 6).offset = 6) ∧ ((fl 105)[7]? = some (fd 105 7)) ∧ ((fd 105 7).type = 101) ∧ ((fd 105 7).offset = 7) ∧ ((fl 105)[8]? = some (fd 105 8)) ∧ ((fd 105 8).type = 102) ∧ ((fd 105 8).offset = 8) ∧ ((fl 105)[9]? = some (fd 105 9)) ∧ ((fd 105 9).type = 103) ∧ ((fd 105 9).offset = 9) ∧ ((fl 105)[10]? = some (fd 105 10)) ∧ ((fd 105 10).type = 104) ∧ ((fd 105 10).offset = 10) ∧ (tt 106 = some ⟨.struct (fl 106), 11, 48, .agg #[.int .u64 0, .int .u64 0, .int .u32 0, .int .u8 0, .int .u8 0, .int .u8 0, .int .u8 0, .nilFunc, .pointer none, .int .i32 0, .int .i32 0], false⟩) ∧ ((fl 106).toList = [fd 106 0, fd 106 1, fd 106 2, fd 106 3, fd 106 4, fd 106 5, fd 106 6, fd 106 7, fd 106 8, fd 106 9, fd 106 10]) ∧ ((fl 106)[0]? = some (fd 106 0)) ∧ ((fd 106 0).type = 12) ∧ ((fd 106 0).offset = 0) ∧ ((fl 106)[1]? = some (fd 106 1)) ∧ ((fd 106 1).type = 12) ∧ ((fd 106 1).offset = 1) ∧ ((fl 106)[2]? = some (fd 106 2)) ∧ ((fd 106 2).type = 86) ∧ ((fd 106 2).offset = 2) ∧ ((fl 106)[3]? = some (fd 106 3)) ∧ ((fd 106 3).type = 99) ∧ ((fd 106 3).offset = 3) ∧ ((fl 106)[4]? = some (fd 106 4)) ∧ ((fd 106 4).type = 5) ∧ ((fd 106 4).offset = 4) ∧ ((fl 106)[5]? = some (fd 106 5)) ∧ ((fd 106 5).type = 5) ∧ ((fd 106 5).offset = 5) ∧ ((fl 106)[6]? = some (fd 106 6)) := ⟨fdo105_4, fl105_5, fdt105_5, fdo105_5, fl105_6, fdt105_6, fdo105_6, fl105_7, fdt105_7, fdo105_7, fl105_8, fdt105_8, fdo105_8, fl105_9, fdt105_9, fdo105_9, fl105_10, fdt105_10, fdo105_10, tt106, fll106, fl106_0, fdt106_0, fdo106_0, fl106_1, fdt106_1, fdo106_1, fl106_2, fdt106_2, fdo106_2, fl106_3, fdt106_3, fdo106_3, fl106_4, fdt106_4, fdo106_4, fl106_5, fdt106_5, fdo106_5, fl106_6⟩
theorem tyA7 : ((fd 106 6).type = 100) ∧ ((fd 106 6).offset = 6) ∧ ((fl 106)[7]? = some (fd 106 7)) ∧ ((fd 106 7).type = 101) ∧ ((fd 106 7).offset = 7) ∧ ((fl 106)[8]? = some (fd 106 8)) ∧ ((fd 106 8).type = 102) ∧ ((fd 106 8).offset = 8) ∧ ((fl 106)[9]? = some (fd 106 9)) ∧ ((fd 106 9).type = 103) ∧ ((fd 106 9).offset = 9) ∧ ((fl 106)[10]? = some (fd 106 10)) ∧ ((fd 106 10).type = 104) ∧ ((fd 106 10).offset = 10) := ⟨fdt106_6, fdo106_6, fl106_7, fdt106_7, fdo106_7, fl106_8, fdt106_8, fdo106_8, fl106_9, fdt106_9, fdo106_9, fl106_10, fdt106_10, fdo106_10⟩
theorem tyA : type_of% (And.intro tyA0 (And.intro tyA1 (And.intro tyA2 (And.intro tyA3 (And.intro tyA4 (And.intro tyA5 (And.intro tyA6 (tyA7)))))))) := And.intro tyA0 (And.intro tyA1 (And.intro tyA2 (And.intro tyA3 (And.intro tyA4 (And.intro tyA5 (And.intro tyA6 (tyA7)))))))
attribute [irreducible] tt fl fd
end Go.Proofs.Ytcfnbofapjgepaa
