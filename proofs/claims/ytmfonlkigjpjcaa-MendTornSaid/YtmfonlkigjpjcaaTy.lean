/-
  DERIVED by gen_ty.py: what the program says of its types, a lemma each.
-/
import Derived.Test.YtmfonlkigjpjcaaChecked
import Derived.Test.YtmfonlkigjpjcaaAbD
import Derived.KernelRfl
namespace Go.Proofs.Ytmfonlkigjpjcaa
open Go.Ab
set_option linter.unusedSimpArgs false

noncomputable def tt : TypeId → Option TI := ttOf Try.prog
theorem ttok : TTok Try.prog tt := ttOf_ok _
noncomputable def fl (T : TypeId) : Array Field := flOf Try.prog T
noncomputable def fd (T : TypeId) (k : Nat) : Field := (fl T).getD k default

theorem tt1 : tt 1 = some ⟨.func #[] #[] false, 1, 8, .nilFunc, false⟩ := by kernel_rfl
theorem tt2 : tt 2 = some ⟨.int .i64, 1, 8, .int .i64 0, false⟩ := by kernel_rfl
theorem tt3 : tt 3 = some ⟨.int .i64, 1, 8, .int .i64 0, false⟩ := by kernel_rfl
theorem tt4 : tt 4 = some ⟨.bool, 1, 1, .bool false, false⟩ := by kernel_rfl
theorem tt5 : tt 5 = some ⟨.int .u8, 1, 1, .int .u8 0, false⟩ := by kernel_rfl
theorem tt6 : tt 6 = some ⟨.int .u8, 1, 1, .int .u8 0, false⟩ := by kernel_rfl
theorem tt7 : tt 7 = some ⟨.struct (fl 7), 4, 24, .agg #[.int .i64 0, .int .i64 0, .bool false, .int .u8 0], false⟩ := by kernel_rfl
theorem zc7 : (Value.agg #[.int .i64 0, .int .i64 0, .bool false, .int .u8 0]).cells.toList = [.int .i64 0, .int .i64 0, .bool false, .int .u8 0] := by kernel_rfl
theorem fll7 : (fl 7).toList = [fd 7 0, fd 7 1, fd 7 2, fd 7 3] := by kernel_rfl
theorem fl7_0 : (fl 7)[0]? = some (fd 7 0) := by kernel_rfl
theorem fdt7_0 : (fd 7 0).type = 2 := by kernel_rfl
theorem fdo7_0 : (fd 7 0).offset = 0 := by kernel_rfl
theorem fl7_1 : (fl 7)[1]? = some (fd 7 1) := by kernel_rfl
theorem fdt7_1 : (fd 7 1).type = 3 := by kernel_rfl
theorem fdo7_1 : (fd 7 1).offset = 1 := by kernel_rfl
theorem fl7_2 : (fl 7)[2]? = some (fd 7 2) := by kernel_rfl
theorem fdt7_2 : (fd 7 2).type = 4 := by kernel_rfl
theorem fdo7_2 : (fd 7 2).offset = 2 := by kernel_rfl
theorem fl7_3 : (fl 7)[3]? = some (fd 7 3) := by kernel_rfl
theorem fdt7_3 : (fd 7 3).type = 6 := by kernel_rfl
theorem fdo7_3 : (fd 7 3).offset = 3 := by kernel_rfl
theorem tt8 : tt 8 = some ⟨.struct (fl 8), 4, 24, .agg #[.int .i64 0, .int .i64 0, .bool false, .int .u8 0], false⟩ := by kernel_rfl
theorem fll8 : (fl 8).toList = [fd 8 0, fd 8 1, fd 8 2, fd 8 3] := by kernel_rfl
theorem fl8_0 : (fl 8)[0]? = some (fd 8 0) := by kernel_rfl
theorem fdt8_0 : (fd 8 0).type = 2 := by kernel_rfl
theorem fdo8_0 : (fd 8 0).offset = 0 := by kernel_rfl
theorem fl8_1 : (fl 8)[1]? = some (fd 8 1) := by kernel_rfl
theorem fdt8_1 : (fd 8 1).type = 3 := by kernel_rfl
theorem fdo8_1 : (fd 8 1).offset = 1 := by kernel_rfl
theorem fl8_2 : (fl 8)[2]? = some (fd 8 2) := by kernel_rfl
theorem fdt8_2 : (fd 8 2).type = 4 := by kernel_rfl
theorem fdo8_2 : (fd 8 2).offset = 2 := by kernel_rfl
theorem fl8_3 : (fl 8)[3]? = some (fd 8 3) := by kernel_rfl
theorem fdt8_3 : (fd 8 3).type = 6 := by kernel_rfl
theorem fdo8_3 : (fd 8 3).offset = 3 := by kernel_rfl
theorem tt9 : tt 9 = some ⟨.string, 1, 16, .string ByteArray.empty, false⟩ := by kernel_rfl
theorem tt10 : tt 10 = some ⟨.string, 1, 16, .string ByteArray.empty, false⟩ := by kernel_rfl
theorem tt11 : tt 11 = some ⟨.string, 1, 16, .string ByteArray.empty, false⟩ := by kernel_rfl
theorem tt12 : tt 12 = some ⟨.int .u64, 1, 8, .int .u64 0, false⟩ := by kernel_rfl
theorem tt13 : tt 13 = some ⟨.struct (fl 13), 2, 24, .agg #[.string ByteArray.empty, .int .u64 0], false⟩ := by kernel_rfl
theorem zc13 : (Value.agg #[.string ByteArray.empty, .int .u64 0]).cells.toList = [.string ByteArray.empty, .int .u64 0] := by kernel_rfl
theorem fll13 : (fl 13).toList = [fd 13 0, fd 13 1] := by kernel_rfl
theorem fl13_0 : (fl 13)[0]? = some (fd 13 0) := by kernel_rfl
theorem fdt13_0 : (fd 13 0).type = 9 := by kernel_rfl
theorem fdo13_0 : (fd 13 0).offset = 0 := by kernel_rfl
theorem fl13_1 : (fl 13)[1]? = some (fd 13 1) := by kernel_rfl
theorem fdt13_1 : (fd 13 1).type = 12 := by kernel_rfl
theorem fdo13_1 : (fd 13 1).offset = 1 := by kernel_rfl
theorem tt14 : tt 14 = some ⟨.struct (fl 14), 2, 24, .agg #[.string ByteArray.empty, .int .u64 0], false⟩ := by kernel_rfl
theorem fll14 : (fl 14).toList = [fd 14 0, fd 14 1] := by kernel_rfl
theorem fl14_0 : (fl 14)[0]? = some (fd 14 0) := by kernel_rfl
theorem fdt14_0 : (fd 14 0).type = 9 := by kernel_rfl
theorem fdo14_0 : (fd 14 0).offset = 0 := by kernel_rfl
theorem fl14_1 : (fl 14)[1]? = some (fd 14 1) := by kernel_rfl
theorem fdt14_1 : (fd 14 1).type = 12 := by kernel_rfl
theorem fdo14_1 : (fd 14 1).offset = 1 := by kernel_rfl
theorem tt15 : tt 15 = some ⟨.pointer 109, 1, 8, .pointer none, false⟩ := by kernel_rfl
theorem tt16 : tt 16 = some ⟨.pointer 112, 1, 8, .pointer none, false⟩ := by kernel_rfl
theorem tt17 : tt 17 = some ⟨.pointer 120, 1, 8, .pointer none, false⟩ := by kernel_rfl
theorem tt18 : tt 18 = some ⟨.struct (fl 18), 1, 8, .agg #[.pointer none], false⟩ := by kernel_rfl
theorem zc18 : (Value.agg #[.pointer none]).cells.toList = [.pointer none] := by kernel_rfl
theorem fll18 : (fl 18).toList = [fd 18 0] := by kernel_rfl
theorem fl18_0 : (fl 18)[0]? = some (fd 18 0) := by kernel_rfl
theorem fdt18_0 : (fd 18 0).type = 17 := by kernel_rfl
theorem fdo18_0 : (fd 18 0).offset = 0 := by kernel_rfl
theorem tt19 : tt 19 = some ⟨.struct (fl 19), 1, 8, .agg #[.pointer none], false⟩ := by kernel_rfl
theorem fll19 : (fl 19).toList = [fd 19 0] := by kernel_rfl
theorem fl19_0 : (fl 19)[0]? = some (fd 19 0) := by kernel_rfl
theorem fdt19_0 : (fd 19 0).type = 17 := by kernel_rfl
theorem fdo19_0 : (fd 19 0).offset = 0 := by kernel_rfl
theorem tt21 : tt 21 = some ⟨.int .i32, 1, 4, .int .i32 0, false⟩ := by kernel_rfl
theorem tt22 : tt 22 = some ⟨.slice 55, 1, 24, .slice none 0 0, false⟩ := by kernel_rfl
theorem tt23 : tt 23 = some ⟨.slice 3, 1, 24, .slice none 0 0, false⟩ := by kernel_rfl
theorem tt24 : tt 24 = some ⟨.struct (fl 24), 4, 64, .agg #[.int .i64 0, .int .i64 0, .slice none 0 0, .slice none 0 0], false⟩ := by kernel_rfl
theorem zc24 : (Value.agg #[.int .i64 0, .int .i64 0, .slice none 0 0, .slice none 0 0]).cells.toList = [.int .i64 0, .int .i64 0, .slice none 0 0, .slice none 0 0] := by kernel_rfl
theorem fll24 : (fl 24).toList = [fd 24 0, fd 24 1, fd 24 2, fd 24 3] := by kernel_rfl
theorem fl24_0 : (fl 24)[0]? = some (fd 24 0) := by kernel_rfl
theorem fdt24_0 : (fd 24 0).type = 3 := by kernel_rfl
theorem fdo24_0 : (fd 24 0).offset = 0 := by kernel_rfl
theorem fl24_1 : (fl 24)[1]? = some (fd 24 1) := by kernel_rfl
theorem fdt24_1 : (fd 24 1).type = 3 := by kernel_rfl
theorem fdo24_1 : (fd 24 1).offset = 1 := by kernel_rfl
theorem fl24_2 : (fl 24)[2]? = some (fd 24 2) := by kernel_rfl
theorem fdt24_2 : (fd 24 2).type = 22 := by kernel_rfl
theorem fdo24_2 : (fd 24 2).offset = 2 := by kernel_rfl
theorem fl24_3 : (fl 24)[3]? = some (fd 24 3) := by kernel_rfl
theorem fdt24_3 : (fd 24 3).type = 23 := by kernel_rfl
theorem fdo24_3 : (fd 24 3).offset = 3 := by kernel_rfl
theorem tt25 : tt 25 = some ⟨.struct (fl 25), 4, 64, .agg #[.int .i64 0, .int .i64 0, .slice none 0 0, .slice none 0 0], false⟩ := by kernel_rfl
theorem fll25 : (fl 25).toList = [fd 25 0, fd 25 1, fd 25 2, fd 25 3] := by kernel_rfl
theorem fl25_0 : (fl 25)[0]? = some (fd 25 0) := by kernel_rfl
theorem fdt25_0 : (fd 25 0).type = 3 := by kernel_rfl
theorem fdo25_0 : (fd 25 0).offset = 0 := by kernel_rfl
theorem fl25_1 : (fl 25)[1]? = some (fd 25 1) := by kernel_rfl
theorem fdt25_1 : (fd 25 1).type = 3 := by kernel_rfl
theorem fdo25_1 : (fd 25 1).offset = 1 := by kernel_rfl
theorem fl25_2 : (fl 25)[2]? = some (fd 25 2) := by kernel_rfl
theorem fdt25_2 : (fd 25 2).type = 22 := by kernel_rfl
theorem fdo25_2 : (fd 25 2).offset = 2 := by kernel_rfl
theorem fl25_3 : (fl 25)[3]? = some (fd 25 3) := by kernel_rfl
theorem fdt25_3 : (fd 25 3).type = 23 := by kernel_rfl
theorem fdo25_3 : (fd 25 3).offset = 3 := by kernel_rfl
theorem tt26 : tt 26 = some ⟨.array 2 3, 2, 16, .agg #[.int .i64 0, .int .i64 0], false⟩ := by kernel_rfl
theorem zc26 : (Value.agg #[.int .i64 0, .int .i64 0]).cells.toList = [.int .i64 0, .int .i64 0] := by kernel_rfl
theorem tt27 : tt 27 = some ⟨.func #[25] #[25] false, 1, 8, .nilFunc, false⟩ := by kernel_rfl
theorem tt28 : tt 28 = some ⟨.pointer 75, 1, 8, .pointer none, false⟩ := by kernel_rfl
theorem tt30 : tt 30 = some ⟨.func #[25] #[28, 4] false, 1, 8, .nilFunc, false⟩ := by kernel_rfl
theorem tt31 : tt 31 = some ⟨.slice 62, 1, 24, .slice none 0 0, false⟩ := by kernel_rfl
theorem tt32 : tt 32 = some ⟨.pointer 68, 1, 8, .pointer none, false⟩ := by kernel_rfl
theorem tt34 : tt 34 = some ⟨.func #[3, 3, 25] #[31, 32, 4] false, 1, 8, .nilFunc, false⟩ := by kernel_rfl
theorem tt35 : tt 35 = some ⟨.func #[31, 3] #[4] false, 1, 8, .nilFunc, false⟩ := by kernel_rfl
theorem tt36 : tt 36 = some ⟨.slice 47, 1, 24, .slice none 0 0, false⟩ := by kernel_rfl
theorem tt37 : tt 37 = some ⟨.struct (fl 37), 7, 104, .agg #[.int .i64 0, .int .i64 0, .int .i64 0, .int .i64 0, .slice none 0 0, .slice none 0 0, .slice none 0 0], false⟩ := by kernel_rfl
theorem zc37 : (Value.agg #[.int .i64 0, .int .i64 0, .int .i64 0, .int .i64 0, .slice none 0 0, .slice none 0 0, .slice none 0 0]).cells.toList = [.int .i64 0, .int .i64 0, .int .i64 0, .int .i64 0, .slice none 0 0, .slice none 0 0, .slice none 0 0] := by kernel_rfl
theorem fll37 : (fl 37).toList = [fd 37 0, fd 37 1, fd 37 2, fd 37 3] := by kernel_rfl
theorem fl37_0 : (fl 37)[0]? = some (fd 37 0) := by kernel_rfl
theorem fdt37_0 : (fd 37 0).type = 3 := by kernel_rfl
theorem fdo37_0 : (fd 37 0).offset = 0 := by kernel_rfl
theorem fl37_1 : (fl 37)[1]? = some (fd 37 1) := by kernel_rfl
theorem fdt37_1 : (fd 37 1).type = 3 := by kernel_rfl
theorem fdo37_1 : (fd 37 1).offset = 1 := by kernel_rfl
theorem fl37_2 : (fl 37)[2]? = some (fd 37 2) := by kernel_rfl
theorem fdt37_2 : (fd 37 2).type = 25 := by kernel_rfl
theorem fdo37_2 : (fd 37 2).offset = 2 := by kernel_rfl
theorem fl37_3 : (fl 37)[3]? = some (fd 37 3) := by kernel_rfl
theorem fdt37_3 : (fd 37 3).type = 36 := by kernel_rfl
theorem fdo37_3 : (fd 37 3).offset = 6 := by kernel_rfl
theorem tt38 : tt 38 = some ⟨.struct (fl 38), 7, 104, .agg #[.int .i64 0, .int .i64 0, .int .i64 0, .int .i64 0, .slice none 0 0, .slice none 0 0, .slice none 0 0], false⟩ := by kernel_rfl
theorem fll38 : (fl 38).toList = [fd 38 0, fd 38 1, fd 38 2, fd 38 3] := by kernel_rfl
theorem fl38_0 : (fl 38)[0]? = some (fd 38 0) := by kernel_rfl
theorem fdt38_0 : (fd 38 0).type = 3 := by kernel_rfl
theorem fdo38_0 : (fd 38 0).offset = 0 := by kernel_rfl
theorem fl38_1 : (fl 38)[1]? = some (fd 38 1) := by kernel_rfl
theorem fdt38_1 : (fd 38 1).type = 3 := by kernel_rfl
theorem fdo38_1 : (fd 38 1).offset = 1 := by kernel_rfl
theorem fl38_2 : (fl 38)[2]? = some (fd 38 2) := by kernel_rfl
theorem fdt38_2 : (fd 38 2).type = 25 := by kernel_rfl
theorem fdo38_2 : (fd 38 2).offset = 2 := by kernel_rfl
theorem fl38_3 : (fl 38)[3]? = some (fd 38 3) := by kernel_rfl
theorem fdt38_3 : (fd 38 3).type = 36 := by kernel_rfl
theorem fdo38_3 : (fd 38 3).offset = 6 := by kernel_rfl
theorem tt39 : tt 39 = some ⟨.int .i64, 1, 8, .int .i64 0, false⟩ := by kernel_rfl
theorem tt41 : tt 41 = some ⟨.func #[28] #[38, 32, 39] false, 1, 8, .nilFunc, false⟩ := by kernel_rfl
theorem tt42 : tt 42 = some ⟨.func #[25, 25] #[4] false, 1, 8, .nilFunc, false⟩ := by kernel_rfl
theorem tt43 : tt 43 = some ⟨.func #[] #[3] false, 1, 8, .nilFunc, false⟩ := by kernel_rfl
theorem tt44 : tt 44 = some ⟨.func #[] #[4] false, 1, 8, .nilFunc, false⟩ := by kernel_rfl
theorem tt45 : tt 45 = some ⟨.func #[25, 25, 26] #[4] false, 1, 8, .nilFunc, false⟩ := by kernel_rfl
theorem tt46 : tt 46 = some ⟨.struct (fl 46), 3, 24, .agg #[.int .i64 0, .int .i64 0, .int .i64 0], true⟩ := by kernel_rfl
theorem zc46 : (Value.agg #[.int .i64 0, .int .i64 0, .int .i64 0]).cells.toList = [.int .i64 0, .int .i64 0, .int .i64 0] := by kernel_rfl
theorem fll46 : (fl 46).toList = [fd 46 0, fd 46 1, fd 46 2] := by kernel_rfl
theorem fl46_0 : (fl 46)[0]? = some (fd 46 0) := by kernel_rfl
theorem fdt46_0 : (fd 46 0).type = 3 := by kernel_rfl
theorem fdo46_0 : (fd 46 0).offset = 0 := by kernel_rfl
theorem fl46_1 : (fl 46)[1]? = some (fd 46 1) := by kernel_rfl
theorem fdt46_1 : (fd 46 1).type = 3 := by kernel_rfl
theorem fdo46_1 : (fd 46 1).offset = 1 := by kernel_rfl
theorem fl46_2 : (fl 46)[2]? = some (fd 46 2) := by kernel_rfl
theorem fdt46_2 : (fd 46 2).type = 3 := by kernel_rfl
theorem fdo46_2 : (fd 46 2).offset = 2 := by kernel_rfl
theorem tt47 : tt 47 = some ⟨.struct (fl 47), 3, 24, .agg #[.int .i64 0, .int .i64 0, .int .i64 0], true⟩ := by kernel_rfl
theorem fll47 : (fl 47).toList = [fd 47 0, fd 47 1, fd 47 2] := by kernel_rfl
theorem fl47_0 : (fl 47)[0]? = some (fd 47 0) := by kernel_rfl
theorem fdt47_0 : (fd 47 0).type = 3 := by kernel_rfl
theorem fdo47_0 : (fd 47 0).offset = 0 := by kernel_rfl
theorem fl47_1 : (fl 47)[1]? = some (fd 47 1) := by kernel_rfl
theorem fdt47_1 : (fd 47 1).type = 3 := by kernel_rfl
theorem fdo47_1 : (fd 47 1).offset = 1 := by kernel_rfl
theorem fl47_2 : (fl 47)[2]? = some (fd 47 2) := by kernel_rfl
theorem fdt47_2 : (fd 47 2).type = 3 := by kernel_rfl
theorem fdo47_2 : (fd 47 2).offset = 2 := by kernel_rfl
theorem tt48 : tt 48 = some ⟨.int .u64, 1, 8, .int .u64 0, false⟩ := by kernel_rfl
theorem tt50 : tt 50 = some ⟨.func #[51] #[31, 4] false, 1, 8, .nilFunc, false⟩ := by kernel_rfl
theorem tt51 : tt 51 = some ⟨.slice 5, 1, 24, .slice none 0 0, false⟩ := by kernel_rfl
theorem tt52 : tt 52 = some ⟨.func #[3, 47] #[51] false, 1, 8, .nilFunc, false⟩ := by kernel_rfl
theorem tt53 : tt 53 = some ⟨.func #[25, 36, 3] #[4] false, 1, 8, .nilFunc, false⟩ := by kernel_rfl
theorem tt54 : tt 54 = some ⟨.struct (fl 54), 2, 32, .agg #[.int .i64 0, .slice none 0 0], false⟩ := by kernel_rfl
theorem zc54 : (Value.agg #[.int .i64 0, .slice none 0 0]).cells.toList = [.int .i64 0, .slice none 0 0] := by kernel_rfl
theorem fll54 : (fl 54).toList = [fd 54 0, fd 54 1] := by kernel_rfl
theorem fl54_0 : (fl 54)[0]? = some (fd 54 0) := by kernel_rfl
theorem fdt54_0 : (fd 54 0).type = 3 := by kernel_rfl
theorem fdo54_0 : (fd 54 0).offset = 0 := by kernel_rfl
theorem fl54_1 : (fl 54)[1]? = some (fd 54 1) := by kernel_rfl
theorem fdt54_1 : (fd 54 1).type = 23 := by kernel_rfl
theorem fdo54_1 : (fd 54 1).offset = 1 := by kernel_rfl
theorem tt55 : tt 55 = some ⟨.struct (fl 55), 2, 32, .agg #[.int .i64 0, .slice none 0 0], false⟩ := by kernel_rfl
theorem fll55 : (fl 55).toList = [fd 55 0, fd 55 1] := by kernel_rfl
theorem fl55_0 : (fl 55)[0]? = some (fd 55 0) := by kernel_rfl
theorem fdt55_0 : (fd 55 0).type = 3 := by kernel_rfl
theorem fdo55_0 : (fd 55 0).offset = 0 := by kernel_rfl
theorem fl55_1 : (fl 55)[1]? = some (fd 55 1) := by kernel_rfl
theorem fdt55_1 : (fd 55 1).type = 23 := by kernel_rfl
theorem fdo55_1 : (fd 55 1).offset = 1 := by kernel_rfl
theorem tt56 : tt 56 = some ⟨.func #[] #[28] false, 1, 8, .nilFunc, false⟩ := by kernel_rfl
theorem tt57 : tt 57 = some ⟨.func #[3] #[32] false, 1, 8, .nilFunc, false⟩ := by kernel_rfl
theorem tt58 : tt 58 = some ⟨.func #[3, 25] #[51] false, 1, 8, .nilFunc, false⟩ := by kernel_rfl
theorem tt59 : tt 59 = some ⟨.func #[] #[31] false, 1, 8, .nilFunc, false⟩ := by kernel_rfl
theorem tt60 : tt 60 = some ⟨.func #[3] #[51] false, 1, 8, .nilFunc, false⟩ := by kernel_rfl
theorem tt61 : tt 61 = some ⟨.struct (fl 61), 2, 32, .agg #[.int .i64 0, .slice none 0 0], false⟩ := by kernel_rfl
theorem fll61 : (fl 61).toList = [fd 61 0, fd 61 1] := by kernel_rfl
theorem fl61_0 : (fl 61)[0]? = some (fd 61 0) := by kernel_rfl
theorem fdt61_0 : (fd 61 0).type = 3 := by kernel_rfl
theorem fdo61_0 : (fd 61 0).offset = 0 := by kernel_rfl
theorem fl61_1 : (fl 61)[1]? = some (fd 61 1) := by kernel_rfl
theorem fdt61_1 : (fd 61 1).type = 51 := by kernel_rfl
theorem fdo61_1 : (fd 61 1).offset = 1 := by kernel_rfl
theorem tt62 : tt 62 = some ⟨.struct (fl 62), 2, 32, .agg #[.int .i64 0, .slice none 0 0], false⟩ := by kernel_rfl
theorem fll62 : (fl 62).toList = [fd 62 0, fd 62 1] := by kernel_rfl
theorem fl62_0 : (fl 62)[0]? = some (fd 62 0) := by kernel_rfl
theorem fdt62_0 : (fd 62 0).type = 3 := by kernel_rfl
theorem fdo62_0 : (fd 62 0).offset = 0 := by kernel_rfl
theorem fl62_1 : (fl 62)[1]? = some (fd 62 1) := by kernel_rfl
theorem fdt62_1 : (fd 62 1).type = 51 := by kernel_rfl
theorem fdo62_1 : (fd 62 1).offset = 1 := by kernel_rfl
theorem tt63 : tt 63 = some ⟨.func #[62, 3] #[4] false, 1, 8, .nilFunc, false⟩ := by kernel_rfl
theorem tt65 : tt 65 = some ⟨.func #[28, 3] #[38, 32, 4] false, 1, 8, .nilFunc, false⟩ := by kernel_rfl
theorem tt66 : tt 66 = some ⟨.func #[23, 23] #[4] false, 1, 8, .nilFunc, false⟩ := by kernel_rfl
theorem tt67 : tt 67 = some ⟨.struct (fl 67), 3, 40, .agg #[.int .i64 0, .slice none 0 0, .int .i64 0], false⟩ := by kernel_rfl
theorem zc67 : (Value.agg #[.int .i64 0, .slice none 0 0, .int .i64 0]).cells.toList = [.int .i64 0, .slice none 0 0, .int .i64 0] := by kernel_rfl
theorem fll67 : (fl 67).toList = [fd 67 0, fd 67 1, fd 67 2] := by kernel_rfl
theorem fl67_0 : (fl 67)[0]? = some (fd 67 0) := by kernel_rfl
theorem fdt67_0 : (fd 67 0).type = 3 := by kernel_rfl
theorem fdo67_0 : (fd 67 0).offset = 0 := by kernel_rfl
theorem fl67_1 : (fl 67)[1]? = some (fd 67 1) := by kernel_rfl
theorem fdt67_1 : (fd 67 1).type = 51 := by kernel_rfl
theorem fdo67_1 : (fd 67 1).offset = 1 := by kernel_rfl
theorem fl67_2 : (fl 67)[2]? = some (fd 67 2) := by kernel_rfl
theorem fdt67_2 : (fd 67 2).type = 3 := by kernel_rfl
theorem fdo67_2 : (fd 67 2).offset = 2 := by kernel_rfl
theorem tt68 : tt 68 = some ⟨.struct (fl 68), 3, 40, .agg #[.int .i64 0, .slice none 0 0, .int .i64 0], false⟩ := by kernel_rfl
theorem fll68 : (fl 68).toList = [fd 68 0, fd 68 1, fd 68 2] := by kernel_rfl
theorem fl68_0 : (fl 68)[0]? = some (fd 68 0) := by kernel_rfl
theorem fdt68_0 : (fd 68 0).type = 3 := by kernel_rfl
theorem fdo68_0 : (fd 68 0).offset = 0 := by kernel_rfl
theorem fl68_1 : (fl 68)[1]? = some (fd 68 1) := by kernel_rfl
theorem fdt68_1 : (fd 68 1).type = 51 := by kernel_rfl
theorem fdo68_1 : (fd 68 1).offset = 1 := by kernel_rfl
theorem fl68_2 : (fl 68)[2]? = some (fd 68 2) := by kernel_rfl
theorem fdt68_2 : (fd 68 2).type = 3 := by kernel_rfl
theorem fdo68_2 : (fd 68 2).offset = 2 := by kernel_rfl
theorem tt69 : tt 69 = some ⟨.func #[51] #[51] false, 1, 8, .nilFunc, false⟩ := by kernel_rfl
theorem tt70 : tt 70 = some ⟨.func #[3] #[62] false, 1, 8, .nilFunc, false⟩ := by kernel_rfl
theorem tt71 : tt 71 = some ⟨.func #[47] #[4] false, 1, 8, .nilFunc, false⟩ := by kernel_rfl
theorem tt72 : tt 72 = some ⟨.array 4 3, 4, 32, .agg #[.int .i64 0, .int .i64 0, .int .i64 0, .int .i64 0], false⟩ := by kernel_rfl
theorem zc72 : (Value.agg #[.int .i64 0, .int .i64 0, .int .i64 0, .int .i64 0]).cells.toList = [.int .i64 0, .int .i64 0, .int .i64 0, .int .i64 0] := by kernel_rfl
theorem tt73 : tt 73 = some ⟨.func #[51, 3] #[51] false, 1, 8, .nilFunc, false⟩ := by kernel_rfl
theorem tt74 : tt 74 = some ⟨.struct (fl 74), 2, 32, .agg #[.slice none 0 0, .int .i64 0], false⟩ := by kernel_rfl
theorem zc74 : (Value.agg #[.slice none 0 0, .int .i64 0]).cells.toList = [.slice none 0 0, .int .i64 0] := by kernel_rfl
theorem fll74 : (fl 74).toList = [fd 74 0, fd 74 1] := by kernel_rfl
theorem fl74_0 : (fl 74)[0]? = some (fd 74 0) := by kernel_rfl
theorem fdt74_0 : (fd 74 0).type = 51 := by kernel_rfl
theorem fdo74_0 : (fd 74 0).offset = 0 := by kernel_rfl
theorem fl74_1 : (fl 74)[1]? = some (fd 74 1) := by kernel_rfl
theorem fdt74_1 : (fd 74 1).type = 3 := by kernel_rfl
theorem fdo74_1 : (fd 74 1).offset = 1 := by kernel_rfl
theorem tt75 : tt 75 = some ⟨.struct (fl 75), 2, 32, .agg #[.slice none 0 0, .int .i64 0], false⟩ := by kernel_rfl
theorem fll75 : (fl 75).toList = [fd 75 0, fd 75 1] := by kernel_rfl
theorem fl75_0 : (fl 75)[0]? = some (fd 75 0) := by kernel_rfl
theorem fdt75_0 : (fd 75 0).type = 51 := by kernel_rfl
theorem fdo75_0 : (fd 75 0).offset = 0 := by kernel_rfl
theorem fl75_1 : (fl 75)[1]? = some (fd 75 1) := by kernel_rfl
theorem fdt75_1 : (fd 75 1).type = 3 := by kernel_rfl
theorem fdo75_1 : (fd 75 1).offset = 1 := by kernel_rfl
theorem tt76 : tt 76 = some ⟨.func #[25] #[4] false, 1, 8, .nilFunc, false⟩ := by kernel_rfl
theorem tt77 : tt 77 = some ⟨.func #[51, 78] #[51] false, 1, 8, .nilFunc, false⟩ := by kernel_rfl
theorem tt78 : tt 78 = some ⟨.int .u32, 1, 4, .int .u32 0, false⟩ := by kernel_rfl
theorem tt79 : tt 79 = some ⟨.func #[51] #[78] false, 1, 8, .nilFunc, false⟩ := by kernel_rfl
theorem tt81 : tt 81 = some ⟨.func #[51] #[3, 4] false, 1, 8, .nilFunc, false⟩ := by kernel_rfl
theorem tt82 : tt 82 = some ⟨.func #[3, 51] #[32] false, 1, 8, .nilFunc, false⟩ := by kernel_rfl
theorem tt83 : tt 83 = some ⟨.slice 51, 1, 24, .slice none 0 0, false⟩ := by kernel_rfl
theorem tt84 : tt 84 = some ⟨.func #[] #[83] false, 1, 8, .nilFunc, false⟩ := by kernel_rfl
theorem tt86 : tt 86 = some ⟨.func #[51] #[3, 25, 4] false, 1, 8, .nilFunc, false⟩ := by kernel_rfl
theorem tt88 : tt 88 = some ⟨.func #[51] #[3, 47, 4] false, 1, 8, .nilFunc, false⟩ := by kernel_rfl
theorem tt89 : tt 89 = some ⟨.array 3 3, 3, 24, .agg #[.int .i64 0, .int .i64 0, .int .i64 0], false⟩ := by kernel_rfl
theorem tt90 : tt 90 = some ⟨.func #[3] #[4] false, 1, 8, .nilFunc, false⟩ := by kernel_rfl
theorem tt91 : tt 91 = some ⟨.func #[23, 90] #[4] false, 1, 8, .nilFunc, false⟩ := by kernel_rfl
theorem tt92 : tt 92 = some ⟨.func #[78, 5] #[78] false, 1, 8, .nilFunc, false⟩ := by kernel_rfl
theorem tt93 : tt 93 = some ⟨.func #[9, 9] #[4] false, 1, 8, .nilFunc, false⟩ := by kernel_rfl
theorem tt95 : tt 95 = some ⟨.func #[51, 3] #[78, 4] false, 1, 8, .nilFunc, false⟩ := by kernel_rfl
theorem tt97 : tt 97 = some ⟨.func #[51] #[83, 3] false, 1, 8, .nilFunc, false⟩ := by kernel_rfl
theorem tt98 : tt 98 = some ⟨.pointer 100, 1, 8, .pointer none, false⟩ := by kernel_rfl
theorem tt99 : tt 99 = some ⟨.struct (fl 99), 2, 32, .agg #[.slice none 0 0, .bool false], false⟩ := by kernel_rfl
theorem zc99 : (Value.agg #[.slice none 0 0, .bool false]).cells.toList = [.slice none 0 0, .bool false] := by kernel_rfl
theorem fll99 : (fl 99).toList = [fd 99 0, fd 99 1] := by kernel_rfl
theorem fl99_0 : (fl 99)[0]? = some (fd 99 0) := by kernel_rfl
theorem fdt99_0 : (fd 99 0).type = 51 := by kernel_rfl
theorem fdo99_0 : (fd 99 0).offset = 0 := by kernel_rfl
theorem fl99_1 : (fl 99)[1]? = some (fd 99 1) := by kernel_rfl
theorem fdt99_1 : (fd 99 1).type = 4 := by kernel_rfl
theorem fdo99_1 : (fd 99 1).offset = 1 := by kernel_rfl
theorem tt100 : tt 100 = some ⟨.struct (fl 100), 2, 32, .agg #[.slice none 0 0, .bool false], false⟩ := by kernel_rfl
theorem fll100 : (fl 100).toList = [fd 100 0, fd 100 1] := by kernel_rfl
theorem fl100_0 : (fl 100)[0]? = some (fd 100 0) := by kernel_rfl
theorem fdt100_0 : (fd 100 0).type = 51 := by kernel_rfl
theorem fdo100_0 : (fd 100 0).offset = 0 := by kernel_rfl
theorem fl100_1 : (fl 100)[1]? = some (fd 100 1) := by kernel_rfl
theorem fdt100_1 : (fd 100 1).type = 4 := by kernel_rfl
theorem fdo100_1 : (fd 100 1).offset = 1 := by kernel_rfl
theorem tt102 : tt 102 = some ⟨.func #[51] #[3, 3] false, 1, 8, .nilFunc, false⟩ := by kernel_rfl
theorem tt103 : tt 103 = some ⟨.func #[23, 90] #[3] false, 1, 8, .nilFunc, false⟩ := by kernel_rfl
theorem tt105 : tt 105 = some ⟨.func #[51, 3] #[51, 3, 39] false, 1, 8, .nilFunc, false⟩ := by kernel_rfl
theorem tt106 : tt 106 = some ⟨.func #[3] #[3] false, 1, 8, .nilFunc, false⟩ := by kernel_rfl
theorem tt107 : tt 107 = some ⟨.func #[] #[9] false, 1, 8, .nilFunc, false⟩ := by kernel_rfl
theorem tt108 : tt 108 = some ⟨.struct (fl 108), 4, 40, .agg #[.pointer none, .pointer none, .pointer none, .string ByteArray.empty], false⟩ := by kernel_rfl
theorem zc108 : (Value.agg #[.pointer none, .pointer none, .pointer none, .string ByteArray.empty]).cells.toList = [.pointer none, .pointer none, .pointer none, .string ByteArray.empty] := by kernel_rfl
theorem fll108 : (fl 108).toList = [fd 108 0, fd 108 1, fd 108 2, fd 108 3] := by kernel_rfl
theorem fl108_0 : (fl 108)[0]? = some (fd 108 0) := by kernel_rfl
theorem fdt108_0 : (fd 108 0).type = 17 := by kernel_rfl
theorem fdo108_0 : (fd 108 0).offset = 0 := by kernel_rfl
theorem fl108_1 : (fl 108)[1]? = some (fd 108 1) := by kernel_rfl
theorem fdt108_1 : (fd 108 1).type = 17 := by kernel_rfl
theorem fdo108_1 : (fd 108 1).offset = 1 := by kernel_rfl
theorem fl108_2 : (fl 108)[2]? = some (fd 108 2) := by kernel_rfl
theorem fdt108_2 : (fd 108 2).type = 17 := by kernel_rfl
theorem fdo108_2 : (fd 108 2).offset = 2 := by kernel_rfl
theorem fl108_3 : (fl 108)[3]? = some (fd 108 3) := by kernel_rfl
theorem fdt108_3 : (fd 108 3).type = 9 := by kernel_rfl
theorem fdo108_3 : (fd 108 3).offset = 3 := by kernel_rfl
theorem tt109 : tt 109 = some ⟨.struct (fl 109), 4, 40, .agg #[.pointer none, .pointer none, .pointer none, .string ByteArray.empty], false⟩ := by kernel_rfl
theorem fll109 : (fl 109).toList = [fd 109 0, fd 109 1, fd 109 2, fd 109 3] := by kernel_rfl
theorem fl109_0 : (fl 109)[0]? = some (fd 109 0) := by kernel_rfl
theorem fdt109_0 : (fd 109 0).type = 17 := by kernel_rfl
theorem fdo109_0 : (fd 109 0).offset = 0 := by kernel_rfl
theorem fl109_1 : (fl 109)[1]? = some (fd 109 1) := by kernel_rfl
theorem fdt109_1 : (fd 109 1).type = 17 := by kernel_rfl
theorem fdo109_1 : (fd 109 1).offset = 1 := by kernel_rfl
theorem fl109_2 : (fl 109)[2]? = some (fd 109 2) := by kernel_rfl
theorem fdt109_2 : (fd 109 2).type = 17 := by kernel_rfl
theorem fdo109_2 : (fd 109 2).offset = 2 := by kernel_rfl
theorem fl109_3 : (fl 109)[3]? = some (fd 109 3) := by kernel_rfl
theorem fdt109_3 : (fd 109 3).type = 9 := by kernel_rfl
theorem fdo109_3 : (fd 109 3).offset = 3 := by kernel_rfl
theorem tt113 : tt 113 = some ⟨.int .u8, 1, 1, .int .u8 0, false⟩ := by kernel_rfl
theorem tt114 : tt 114 = some ⟨.int .u8, 1, 1, .int .u8 0, false⟩ := by kernel_rfl
theorem tt115 : tt 115 = some ⟨.func #[121, 121] #[4] false, 1, 8, .nilFunc, false⟩ := by kernel_rfl
theorem tt116 : tt 116 = some ⟨.pointer 5, 1, 8, .pointer none, false⟩ := by kernel_rfl
theorem tt117 : tt 117 = some ⟨.int .i32, 1, 4, .int .i32 0, false⟩ := by kernel_rfl
theorem tt118 : tt 118 = some ⟨.int .i32, 1, 4, .int .i32 0, false⟩ := by kernel_rfl
theorem tt119 : tt 119 = some ⟨.struct (fl 119), 11, 48, .agg #[.int .u64 0, .int .u64 0, .int .u32 0, .int .u8 0, .int .u8 0, .int .u8 0, .int .u8 0, .nilFunc, .pointer none, .int .i32 0, .int .i32 0], false⟩ := by kernel_rfl
theorem zc119 : (Value.agg #[.int .u64 0, .int .u64 0, .int .u32 0, .int .u8 0, .int .u8 0, .int .u8 0, .int .u8 0, .nilFunc, .pointer none, .int .i32 0, .int .i32 0]).cells.toList = [.int .u64 0, .int .u64 0, .int .u32 0, .int .u8 0, .int .u8 0, .int .u8 0, .int .u8 0, .nilFunc, .pointer none, .int .i32 0, .int .i32 0] := by kernel_rfl
theorem fll119 : (fl 119).toList = [fd 119 0, fd 119 1, fd 119 2, fd 119 3, fd 119 4, fd 119 5, fd 119 6, fd 119 7, fd 119 8, fd 119 9, fd 119 10] := by kernel_rfl
theorem fl119_0 : (fl 119)[0]? = some (fd 119 0) := by kernel_rfl
theorem fdt119_0 : (fd 119 0).type = 12 := by kernel_rfl
theorem fdo119_0 : (fd 119 0).offset = 0 := by kernel_rfl
theorem fl119_1 : (fl 119)[1]? = some (fd 119 1) := by kernel_rfl
theorem fdt119_1 : (fd 119 1).type = 12 := by kernel_rfl
theorem fdo119_1 : (fd 119 1).offset = 1 := by kernel_rfl
theorem fl119_2 : (fl 119)[2]? = some (fd 119 2) := by kernel_rfl
theorem fdt119_2 : (fd 119 2).type = 78 := by kernel_rfl
theorem fdo119_2 : (fd 119 2).offset = 2 := by kernel_rfl
theorem fl119_3 : (fl 119)[3]? = some (fd 119 3) := by kernel_rfl
theorem fdt119_3 : (fd 119 3).type = 113 := by kernel_rfl
theorem fdo119_3 : (fd 119 3).offset = 3 := by kernel_rfl
theorem fl119_4 : (fl 119)[4]? = some (fd 119 4) := by kernel_rfl
theorem fdt119_4 : (fd 119 4).type = 5 := by kernel_rfl
theorem fdo119_4 : (fd 119 4).offset = 4 := by kernel_rfl
theorem fl119_5 : (fl 119)[5]? = some (fd 119 5) := by kernel_rfl
theorem fdt119_5 : (fd 119 5).type = 5 := by kernel_rfl
theorem fdo119_5 : (fd 119 5).offset = 5 := by kernel_rfl
theorem fl119_6 : (fl 119)[6]? = some (fd 119 6) := by kernel_rfl
theorem fdt119_6 : (fd 119 6).type = 114 := by kernel_rfl
theorem fdo119_6 : (fd 119 6).offset = 6 := by kernel_rfl
theorem fl119_7 : (fl 119)[7]? = some (fd 119 7) := by kernel_rfl
theorem fdt119_7 : (fd 119 7).type = 115 := by kernel_rfl
theorem fdo119_7 : (fd 119 7).offset = 7 := by kernel_rfl
theorem fl119_8 : (fl 119)[8]? = some (fd 119 8) := by kernel_rfl
theorem fdt119_8 : (fd 119 8).type = 116 := by kernel_rfl
theorem fdo119_8 : (fd 119 8).offset = 8 := by kernel_rfl
theorem fl119_9 : (fl 119)[9]? = some (fd 119 9) := by kernel_rfl
theorem fdt119_9 : (fd 119 9).type = 117 := by kernel_rfl
theorem fdo119_9 : (fd 119 9).offset = 9 := by kernel_rfl
theorem fl119_10 : (fl 119)[10]? = some (fd 119 10) := by kernel_rfl
theorem fdt119_10 : (fd 119 10).type = 118 := by kernel_rfl
theorem fdo119_10 : (fd 119 10).offset = 10 := by kernel_rfl
theorem tt120 : tt 120 = some ⟨.struct (fl 120), 11, 48, .agg #[.int .u64 0, .int .u64 0, .int .u32 0, .int .u8 0, .int .u8 0, .int .u8 0, .int .u8 0, .nilFunc, .pointer none, .int .i32 0, .int .i32 0], false⟩ := by kernel_rfl
theorem fll120 : (fl 120).toList = [fd 120 0, fd 120 1, fd 120 2, fd 120 3, fd 120 4, fd 120 5, fd 120 6, fd 120 7, fd 120 8, fd 120 9, fd 120 10] := by kernel_rfl
theorem fl120_0 : (fl 120)[0]? = some (fd 120 0) := by kernel_rfl
theorem fdt120_0 : (fd 120 0).type = 12 := by kernel_rfl
theorem fdo120_0 : (fd 120 0).offset = 0 := by kernel_rfl
theorem fl120_1 : (fl 120)[1]? = some (fd 120 1) := by kernel_rfl
theorem fdt120_1 : (fd 120 1).type = 12 := by kernel_rfl
theorem fdo120_1 : (fd 120 1).offset = 1 := by kernel_rfl
theorem fl120_2 : (fl 120)[2]? = some (fd 120 2) := by kernel_rfl
theorem fdt120_2 : (fd 120 2).type = 78 := by kernel_rfl
theorem fdo120_2 : (fd 120 2).offset = 2 := by kernel_rfl
theorem fl120_3 : (fl 120)[3]? = some (fd 120 3) := by kernel_rfl
theorem fdt120_3 : (fd 120 3).type = 113 := by kernel_rfl
theorem fdo120_3 : (fd 120 3).offset = 3 := by kernel_rfl
theorem fl120_4 : (fl 120)[4]? = some (fd 120 4) := by kernel_rfl
theorem fdt120_4 : (fd 120 4).type = 5 := by kernel_rfl
theorem fdo120_4 : (fd 120 4).offset = 4 := by kernel_rfl
theorem fl120_5 : (fl 120)[5]? = some (fd 120 5) := by kernel_rfl
theorem fdt120_5 : (fd 120 5).type = 5 := by kernel_rfl
theorem fdo120_5 : (fd 120 5).offset = 5 := by kernel_rfl
theorem fl120_6 : (fl 120)[6]? = some (fd 120 6) := by kernel_rfl
theorem fdt120_6 : (fd 120 6).type = 114 := by kernel_rfl
theorem fdo120_6 : (fd 120 6).offset = 6 := by kernel_rfl
theorem fl120_7 : (fl 120)[7]? = some (fd 120 7) := by kernel_rfl
theorem fdt120_7 : (fd 120 7).type = 115 := by kernel_rfl
theorem fdo120_7 : (fd 120 7).offset = 7 := by kernel_rfl
theorem fl120_8 : (fl 120)[8]? = some (fd 120 8) := by kernel_rfl
theorem fdt120_8 : (fd 120 8).type = 116 := by kernel_rfl
theorem fdo120_8 : (fd 120 8).offset = 8 := by kernel_rfl
theorem fl120_9 : (fl 120)[9]? = some (fd 120 9) := by kernel_rfl
theorem fdt120_9 : (fd 120 9).type = 117 := by kernel_rfl
theorem fdo120_9 : (fd 120 9).offset = 9 := by kernel_rfl
theorem fl120_10 : (fl 120)[10]? = some (fd 120 10) := by kernel_rfl
theorem fdt120_10 : (fd 120 10).type = 118 := by kernel_rfl
theorem fdo120_10 : (fd 120 10).offset = 10 := by kernel_rfl
theorem fnok3 : FnOk Try.prog 3 := ⟨_, Try.func3, by kernel_rfl, by kernel_rfl⟩
theorem fnok4 : FnOk Try.prog 4 := ⟨_, Try.func4, by kernel_rfl, by kernel_rfl⟩
theorem fnok5 : FnOk Try.prog 5 := ⟨_, Try.func5, by kernel_rfl, by kernel_rfl⟩
theorem fnok6 : FnOk Try.prog 6 := ⟨_, Try.func6, by kernel_rfl, by kernel_rfl⟩
theorem fnok7 : FnOk Try.prog 7 := ⟨_, Try.func7, by kernel_rfl, by kernel_rfl⟩
theorem fnok8 : FnOk Try.prog 8 := ⟨_, Try.func8, by kernel_rfl, by kernel_rfl⟩
theorem fnok9 : FnOk Try.prog 9 := ⟨_, Try.func9, by kernel_rfl, by kernel_rfl⟩
theorem fnok10 : FnOk Try.prog 10 := ⟨_, Try.func10, by kernel_rfl, by kernel_rfl⟩
theorem fnok11 : FnOk Try.prog 11 := ⟨_, Try.func11, by kernel_rfl, by kernel_rfl⟩
theorem fnok12 : FnOk Try.prog 12 := ⟨_, Try.func12, by kernel_rfl, by kernel_rfl⟩
theorem fnok13 : FnOk Try.prog 13 := ⟨_, Try.func13, by kernel_rfl, by kernel_rfl⟩
theorem fnok14 : FnOk Try.prog 14 := ⟨_, Try.func14, by kernel_rfl, by kernel_rfl⟩
theorem fnok15 : FnOk Try.prog 15 := ⟨_, Try.func15, by kernel_rfl, by kernel_rfl⟩
theorem fnok16 : FnOk Try.prog 16 := ⟨_, Try.func16, by kernel_rfl, by kernel_rfl⟩
theorem fnok17 : FnOk Try.prog 17 := ⟨_, Try.func17, by kernel_rfl, by kernel_rfl⟩
theorem fnok18 : FnOk Try.prog 18 := ⟨_, Try.func18, by kernel_rfl, by kernel_rfl⟩
theorem fnok19 : FnOk Try.prog 19 := ⟨_, Try.func19, by kernel_rfl, by kernel_rfl⟩
theorem fnok20 : FnOk Try.prog 20 := ⟨_, Try.func20, by kernel_rfl, by kernel_rfl⟩
theorem fnok21 : FnOk Try.prog 21 := ⟨_, Try.func21, by kernel_rfl, by kernel_rfl⟩
theorem fnok22 : FnOk Try.prog 22 := ⟨_, Try.func22, by kernel_rfl, by kernel_rfl⟩
theorem fnok23 : FnOk Try.prog 23 := ⟨_, Try.func23, by kernel_rfl, by kernel_rfl⟩
theorem fnok24 : FnOk Try.prog 24 := ⟨_, Try.func24, by kernel_rfl, by kernel_rfl⟩
theorem fnok25 : FnOk Try.prog 25 := ⟨_, Try.func25, by kernel_rfl, by kernel_rfl⟩
theorem fnok26 : FnOk Try.prog 26 := ⟨_, Try.func26, by kernel_rfl, by kernel_rfl⟩
theorem fnok27 : FnOk Try.prog 27 := ⟨_, Try.func27, by kernel_rfl, by kernel_rfl⟩
theorem fnok28 : FnOk Try.prog 28 := ⟨_, Try.func28, by kernel_rfl, by kernel_rfl⟩
theorem fnok29 : FnOk Try.prog 29 := ⟨_, Try.func29, by kernel_rfl, by kernel_rfl⟩
theorem fnok30 : FnOk Try.prog 30 := ⟨_, Try.func30, by kernel_rfl, by kernel_rfl⟩
theorem fnok31 : FnOk Try.prog 31 := ⟨_, Try.func31, by kernel_rfl, by kernel_rfl⟩
theorem fnok32 : FnOk Try.prog 32 := ⟨_, Try.func32, by kernel_rfl, by kernel_rfl⟩
theorem fnok33 : FnOk Try.prog 33 := ⟨_, Try.func33, by kernel_rfl, by kernel_rfl⟩
theorem fnok34 : FnOk Try.prog 34 := ⟨_, Try.func34, by kernel_rfl, by kernel_rfl⟩
theorem fnok35 : FnOk Try.prog 35 := ⟨_, Try.func35, by kernel_rfl, by kernel_rfl⟩
theorem fnok36 : FnOk Try.prog 36 := ⟨_, Try.func36, by kernel_rfl, by kernel_rfl⟩
theorem fnok37 : FnOk Try.prog 37 := ⟨_, Try.func37, by kernel_rfl, by kernel_rfl⟩
theorem fnok38 : FnOk Try.prog 38 := ⟨_, Try.func38, by kernel_rfl, by kernel_rfl⟩
theorem fnok39 : FnOk Try.prog 39 := ⟨_, Try.func39, by kernel_rfl, by kernel_rfl⟩
theorem fnok40 : FnOk Try.prog 40 := ⟨_, Try.func40, by kernel_rfl, by kernel_rfl⟩
theorem fnok41 : FnOk Try.prog 41 := ⟨_, Try.func41, by kernel_rfl, by kernel_rfl⟩
theorem fnok42 : FnOk Try.prog 42 := ⟨_, Try.func42, by kernel_rfl, by kernel_rfl⟩
theorem fnok43 : FnOk Try.prog 43 := ⟨_, Try.func43, by kernel_rfl, by kernel_rfl⟩
theorem fnok44 : FnOk Try.prog 44 := ⟨_, Try.func44, by kernel_rfl, by kernel_rfl⟩
theorem fnok45 : FnOk Try.prog 45 := ⟨_, Try.func45, by kernel_rfl, by kernel_rfl⟩
theorem fnok46 : FnOk Try.prog 46 := ⟨_, Try.func46, by kernel_rfl, by kernel_rfl⟩
theorem fnok47 : FnOk Try.prog 47 := ⟨_, Try.func47, by kernel_rfl, by kernel_rfl⟩
theorem fnok48 : FnOk Try.prog 48 := ⟨_, Try.func48, by kernel_rfl, by kernel_rfl⟩
theorem fnok49 : FnOk Try.prog 49 := ⟨_, Try.func49, by kernel_rfl, by kernel_rfl⟩
theorem fnok50 : FnOk Try.prog 50 := ⟨_, Try.func50, by kernel_rfl, by kernel_rfl⟩
theorem fnok51 : FnOk Try.prog 51 := ⟨_, Try.func51, by kernel_rfl, by kernel_rfl⟩
theorem fnok52 : FnOk Try.prog 52 := ⟨_, Try.func52, by kernel_rfl, by kernel_rfl⟩
theorem tyA0 : (tt 1 = some ⟨.func #[] #[] false, 1, 8, .nilFunc, false⟩) ∧ (tt 2 = some ⟨.int .i64, 1, 8, .int .i64 0, false⟩) ∧ (tt 3 = some ⟨.int .i64, 1, 8, .int .i64 0, false⟩) ∧ (tt 4 = some ⟨.bool, 1, 1, .bool false, false⟩) ∧ (tt 5 = some ⟨.int .u8, 1, 1, .int .u8 0, false⟩) ∧ (tt 6 = some ⟨.int .u8, 1, 1, .int .u8 0, false⟩) ∧ (tt 7 = some ⟨.struct (fl 7), 4, 24, .agg #[.int .i64 0, .int .i64 0, .bool false, .int .u8 0], false⟩) ∧ ((Value.agg #[.int .i64 0, .int .i64 0, .bool false, .int .u8 0]).cells.toList = [.int .i64 0, .int .i64 0, .bool false, .int .u8 0]) ∧ ((fl 7).toList = [fd 7 0, fd 7 1, fd 7 2, fd 7 3]) ∧ ((fl 7)[0]? = some (fd 7 0)) ∧ ((fd 7 0).type = 2) ∧ ((fd 7 0).offset = 0) ∧ ((fl 7)[1]? = some (fd 7 1)) ∧ ((fd 7 1).type = 3) ∧ ((fd 7 1).offset = 1) ∧ ((fl 7)[2]? = some (fd 7 2)) ∧ ((fd 7 2).type = 4) ∧ ((fd 7 2).offset = 2) ∧ ((fl 7)[3]? = some (fd 7 3)) ∧ ((fd 7 3).type = 6) ∧ ((fd 7 3).offset = 3) ∧ (tt 8 = some ⟨.struct (fl 8), 4, 24, .agg #[.int .i64 0, .int .i64 0, .bool false, .int .u8 0], false⟩) ∧ ((fl 8).toList = [fd 8 0, fd 8 1, fd 8 2, fd 8 3]) ∧ ((fl 8)[0]? = some (fd 8 0)) ∧ ((fd 8 0).type = 2) ∧ ((fd 8 0).offset = 0) ∧ ((fl 8)[1]? = some (fd 8 1)) ∧ ((fd 8 1).type = 3) ∧ ((fd 8 1).offset = 1) ∧ ((fl 8)[2]? = some (fd 8 2)) ∧ ((fd 8 2).type = 4) ∧ ((fd 8 2).offset = 2) ∧ ((fl 8)[3]? = some (fd 8 3)) ∧ ((fd 8 3).type = 6) ∧ ((fd 8 3).offset = 3) ∧ (tt 9 = some ⟨.string, 1, 16, .string ByteArray.empty, false⟩) ∧ (tt 10 = some ⟨.string, 1, 16, .string ByteArray.empty, false⟩) ∧ (tt 11 = some ⟨.string, 1, 16, .string ByteArray.empty, false⟩) ∧ (tt 12 = some ⟨.int .u64, 1, 8, .int .u64 0, false⟩) ∧ (tt 13 = some ⟨.struct (fl 13), 2, 24, .agg #[.string ByteArray.empty, .int .u64 0], false⟩) := ⟨tt1, tt2, tt3, tt4, tt5, tt6, tt7, zc7, fll7, fl7_0, fdt7_0, fdo7_0, fl7_1, fdt7_1, fdo7_1, fl7_2, fdt7_2, fdo7_2, fl7_3, fdt7_3, fdo7_3, tt8, fll8, fl8_0, fdt8_0, fdo8_0, fl8_1, fdt8_1, fdo8_1, fl8_2, fdt8_2, fdo8_2, fl8_3, fdt8_3, fdo8_3, tt9, tt10, tt11, tt12, tt13⟩
theorem tyA1 : ((Value.agg #[.string ByteArray.empty, .int .u64 0]).cells.toList = [.string ByteArray.empty, .int .u64 0]) ∧ ((fl 13).toList = [fd 13 0, fd 13 1]) ∧ ((fl 13)[0]? = some (fd 13 0)) ∧ ((fd 13 0).type = 9) ∧ ((fd 13 0).offset = 0) ∧ ((fl 13)[1]? = some (fd 13 1)) ∧ ((fd 13 1).type = 12) ∧ ((fd 13 1).offset = 1) ∧ (tt 14 = some ⟨.struct (fl 14), 2, 24, .agg #[.string ByteArray.empty, .int .u64 0], false⟩) ∧ ((fl 14).toList = [fd 14 0, fd 14 1]) ∧ ((fl 14)[0]? = some (fd 14 0)) ∧ ((fd 14 0).type = 9) ∧ ((fd 14 0).offset = 0) ∧ ((fl 14)[1]? = some (fd 14 1)) ∧ ((fd 14 1).type = 12) ∧ ((fd 14 1).offset = 1) ∧ (tt 15 = some ⟨.pointer 109, 1, 8, .pointer none, false⟩) ∧ (tt 16 = some ⟨.pointer 112, 1, 8, .pointer none, false⟩) ∧ (tt 17 = some ⟨.pointer 120, 1, 8, .pointer none, false⟩) ∧ (tt 18 = some ⟨.struct (fl 18), 1, 8, .agg #[.pointer none], false⟩) ∧ ((Value.agg #[.pointer none]).cells.toList = [.pointer none]) ∧ ((fl 18).toList = [fd 18 0]) ∧ ((fl 18)[0]? = some (fd 18 0)) ∧ ((fd 18 0).type = 17) ∧ ((fd 18 0).offset = 0) ∧ (tt 19 = some ⟨.struct (fl 19), 1, 8, .agg #[.pointer none], false⟩) ∧ ((fl 19).toList = [fd 19 0]) ∧ ((fl 19)[0]? = some (fd 19 0)) ∧ ((fd 19 0).type = 17) ∧ ((fd 19 0).offset = 0) ∧ (tt 21 = some ⟨.int .i32, 1, 4, .int .i32 0, false⟩) ∧ (tt 22 = some ⟨.slice 55, 1, 24, .slice none 0 0, false⟩) ∧ (tt 23 = some ⟨.slice 3, 1, 24, .slice none 0 0, false⟩) ∧ (tt 24 = some ⟨.struct (fl 24), 4, 64, .agg #[.int .i64 0, .int .i64 0, .slice none 0 0, .slice none 0 0], false⟩) ∧ ((Value.agg #[.int .i64 0, .int .i64 0, .slice none 0 0, .slice none 0 0]).cells.toList = [.int .i64 0, .int .i64 0, .slice none 0 0, .slice none 0 0]) ∧ ((fl 24).toList = [fd 24 0, fd 24 1, fd 24 2, fd 24 3]) ∧ ((fl 24)[0]? = some (fd 24 0)) ∧ ((fd 24 0).type = 3) ∧ ((fd 24 0).offset = 0) ∧ ((fl 24)[1]? = some (fd 24 1)) := ⟨zc13, fll13, fl13_0, fdt13_0, fdo13_0, fl13_1, fdt13_1, fdo13_1, tt14, fll14, fl14_0, fdt14_0, fdo14_0, fl14_1, fdt14_1, fdo14_1, tt15, tt16, tt17, tt18, zc18, fll18, fl18_0, fdt18_0, fdo18_0, tt19, fll19, fl19_0, fdt19_0, fdo19_0, tt21, tt22, tt23, tt24, zc24, fll24, fl24_0, fdt24_0, fdo24_0, fl24_1⟩
theorem tyA2 : ((fd 24 1).type = 3) ∧ ((fd 24 1).offset = 1) ∧ ((fl 24)[2]? = some (fd 24 2)) ∧ ((fd 24 2).type = 22) ∧ ((fd 24 2).offset = 2) ∧ ((fl 24)[3]? = some (fd 24 3)) ∧ ((fd 24 3).type = 23) ∧ ((fd 24 3).offset = 3) ∧ (tt 25 = some ⟨.struct (fl 25), 4, 64, .agg #[.int .i64 0, .int .i64 0, .slice none 0 0, .slice none 0 0], false⟩) ∧ ((fl 25).toList = [fd 25 0, fd 25 1, fd 25 2, fd 25 3]) ∧ ((fl 25)[0]? = some (fd 25 0)) ∧ ((fd 25 0).type = 3) ∧ ((fd 25 0).offset = 0) ∧ ((fl 25)[1]? = some (fd 25 1)) ∧ ((fd 25 1).type = 3) ∧ ((fd 25 1).offset = 1) ∧ ((fl 25)[2]? = some (fd 25 2)) ∧ ((fd 25 2).type = 22) ∧ ((fd 25 2).offset = 2) ∧ ((fl 25)[3]? = some (fd 25 3)) ∧ ((fd 25 3).type = 23) ∧ ((fd 25 3).offset = 3) ∧ (tt 26 = some ⟨.array 2 3, 2, 16, .agg #[.int .i64 0, .int .i64 0], false⟩) ∧ ((Value.agg #[.int .i64 0, .int .i64 0]).cells.toList = [.int .i64 0, .int .i64 0]) ∧ (tt 27 = some ⟨.func #[25] #[25] false, 1, 8, .nilFunc, false⟩) ∧ (tt 28 = some ⟨.pointer 75, 1, 8, .pointer none, false⟩) ∧ (tt 30 = some ⟨.func #[25] #[28, 4] false, 1, 8, .nilFunc, false⟩) ∧ (tt 31 = some ⟨.slice 62, 1, 24, .slice none 0 0, false⟩) ∧ (tt 32 = some ⟨.pointer 68, 1, 8, .pointer none, false⟩) ∧ (tt 34 = some ⟨.func #[3, 3, 25] #[31, 32, 4] false, 1, 8, .nilFunc, false⟩) ∧ (tt 35 = some ⟨.func #[31, 3] #[4] false, 1, 8, .nilFunc, false⟩) ∧ (tt 36 = some ⟨.slice 47, 1, 24, .slice none 0 0, false⟩) ∧ (tt 37 = some ⟨.struct (fl 37), 7, 104, .agg #[.int .i64 0, .int .i64 0, .int .i64 0, .int .i64 0, .slice none 0 0, .slice none 0 0, .slice none 0 0], false⟩) ∧ ((Value.agg #[.int .i64 0, .int .i64 0, .int .i64 0, .int .i64 0, .slice none 0 0, .slice none 0 0, .slice none 0 0]).cells.toList = [.int .i64 0, .int .i64 0, .int .i64 0, .int .i64 0, .slice none 0 0, .slice none 0 0, .slice none 0 0]) ∧ ((fl 37).toList = [fd 37 0, fd 37 1, fd 37 2, fd 37 3]) ∧ ((fl 37)[0]? = some (fd 37 0)) ∧ ((fd 37 0).type = 3) ∧ ((fd 37 0).offset = 0) ∧ ((fl 37)[1]? = some (fd 37 1)) ∧ ((fd 37 1).type = 3) := ⟨fdt24_1, fdo24_1, fl24_2, fdt24_2, fdo24_2, fl24_3, fdt24_3, fdo24_3, tt25, fll25, fl25_0, fdt25_0, fdo25_0, fl25_1, fdt25_1, fdo25_1, fl25_2, fdt25_2, fdo25_2, fl25_3, fdt25_3, fdo25_3, tt26, zc26, tt27, tt28, tt30, tt31, tt32, tt34, tt35, tt36, tt37, zc37, fll37, fl37_0, fdt37_0, fdo37_0, fl37_1, fdt37_1⟩
theorem tyA3 : ((fd 37 1).offset = 1) ∧ ((fl 37)[2]? = some (fd 37 2)) ∧ ((fd 37 2).type = 25) ∧ ((fd 37 2).offset = 2) ∧ ((fl 37)[3]? = some (fd 37 3)) ∧ ((fd 37 3).type = 36) ∧ ((fd 37 3).offset = 6) ∧ (tt 38 = some ⟨.struct (fl 38), 7, 104, .agg #[.int .i64 0, .int .i64 0, .int .i64 0, .int .i64 0, .slice none 0 0, .slice none 0 0, .slice none 0 0], false⟩) ∧ ((fl 38).toList = [fd 38 0, fd 38 1, fd 38 2, fd 38 3]) ∧ ((fl 38)[0]? = some (fd 38 0)) ∧ ((fd 38 0).type = 3) ∧ ((fd 38 0).offset = 0) ∧ ((fl 38)[1]? = some (fd 38 1)) ∧ ((fd 38 1).type = 3) ∧ ((fd 38 1).offset = 1) ∧ ((fl 38)[2]? = some (fd 38 2)) ∧ ((fd 38 2).type = 25) ∧ ((fd 38 2).offset = 2) ∧ ((fl 38)[3]? = some (fd 38 3)) ∧ ((fd 38 3).type = 36) ∧ ((fd 38 3).offset = 6) ∧ (tt 39 = some ⟨.int .i64, 1, 8, .int .i64 0, false⟩) ∧ (tt 41 = some ⟨.func #[28] #[38, 32, 39] false, 1, 8, .nilFunc, false⟩) ∧ (tt 42 = some ⟨.func #[25, 25] #[4] false, 1, 8, .nilFunc, false⟩) ∧ (tt 43 = some ⟨.func #[] #[3] false, 1, 8, .nilFunc, false⟩) ∧ (tt 44 = some ⟨.func #[] #[4] false, 1, 8, .nilFunc, false⟩) ∧ (tt 45 = some ⟨.func #[25, 25, 26] #[4] false, 1, 8, .nilFunc, false⟩) ∧ (tt 46 = some ⟨.struct (fl 46), 3, 24, .agg #[.int .i64 0, .int .i64 0, .int .i64 0], true⟩) ∧ ((Value.agg #[.int .i64 0, .int .i64 0, .int .i64 0]).cells.toList = [.int .i64 0, .int .i64 0, .int .i64 0]) ∧ ((fl 46).toList = [fd 46 0, fd 46 1, fd 46 2]) ∧ ((fl 46)[0]? = some (fd 46 0)) ∧ ((fd 46 0).type = 3) ∧ ((fd 46 0).offset = 0) ∧ ((fl 46)[1]? = some (fd 46 1)) ∧ ((fd 46 1).type = 3) ∧ ((fd 46 1).offset = 1) ∧ ((fl 46)[2]? = some (fd 46 2)) ∧ ((fd 46 2).type = 3) ∧ ((fd 46 2).offset = 2) ∧ (tt 47 = some ⟨.struct (fl 47), 3, 24, .agg #[.int .i64 0, .int .i64 0, .int .i64 0], true⟩) := ⟨fdo37_1, fl37_2, fdt37_2, fdo37_2, fl37_3, fdt37_3, fdo37_3, tt38, fll38, fl38_0, fdt38_0, fdo38_0, fl38_1, fdt38_1, fdo38_1, fl38_2, fdt38_2, fdo38_2, fl38_3, fdt38_3, fdo38_3, tt39, tt41, tt42, tt43, tt44, tt45, tt46, zc46, fll46, fl46_0, fdt46_0, fdo46_0, fl46_1, fdt46_1, fdo46_1, fl46_2, fdt46_2, fdo46_2, tt47⟩
theorem tyA4 : ((fl 47).toList = [fd 47 0, fd 47 1, fd 47 2]) ∧ ((fl 47)[0]? = some (fd 47 0)) ∧ ((fd 47 0).type = 3) ∧ ((fd 47 0).offset = 0) ∧ ((fl 47)[1]? = some (fd 47 1)) ∧ ((fd 47 1).type = 3) ∧ ((fd 47 1).offset = 1) ∧ ((fl 47)[2]? = some (fd 47 2)) ∧ ((fd 47 2).type = 3) ∧ ((fd 47 2).offset = 2) ∧ (tt 48 = some ⟨.int .u64, 1, 8, .int .u64 0, false⟩) ∧ (tt 50 = some ⟨.func #[51] #[31, 4] false, 1, 8, .nilFunc, false⟩) ∧ (tt 51 = some ⟨.slice 5, 1, 24, .slice none 0 0, false⟩) ∧ (tt 52 = some ⟨.func #[3, 47] #[51] false, 1, 8, .nilFunc, false⟩) ∧ (tt 53 = some ⟨.func #[25, 36, 3] #[4] false, 1, 8, .nilFunc, false⟩) ∧ (tt 54 = some ⟨.struct (fl 54), 2, 32, .agg #[.int .i64 0, .slice none 0 0], false⟩) ∧ ((Value.agg #[.int .i64 0, .slice none 0 0]).cells.toList = [.int .i64 0, .slice none 0 0]) ∧ ((fl 54).toList = [fd 54 0, fd 54 1]) ∧ ((fl 54)[0]? = some (fd 54 0)) ∧ ((fd 54 0).type = 3) ∧ ((fd 54 0).offset = 0) ∧ ((fl 54)[1]? = some (fd 54 1)) ∧ ((fd 54 1).type = 23) ∧ ((fd 54 1).offset = 1) ∧ (tt 55 = some ⟨.struct (fl 55), 2, 32, .agg #[.int .i64 0, .slice none 0 0], false⟩) ∧ ((fl 55).toList = [fd 55 0, fd 55 1]) ∧ ((fl 55)[0]? = some (fd 55 0)) ∧ ((fd 55 0).type = 3) ∧ ((fd 55 0).offset = 0) ∧ ((fl 55)[1]? = some (fd 55 1)) ∧ ((fd 55 1).type = 23) ∧ ((fd 55 1).offset = 1) ∧ (tt 56 = some ⟨.func #[] #[28] false, 1, 8, .nilFunc, false⟩) ∧ (tt 57 = some ⟨.func #[3] #[32] false, 1, 8, .nilFunc, false⟩) ∧ (tt 58 = some ⟨.func #[3, 25] #[51] false, 1, 8, .nilFunc, false⟩) ∧ (tt 59 = some ⟨.func #[] #[31] false, 1, 8, .nilFunc, false⟩) ∧ (tt 60 = some ⟨.func #[3] #[51] false, 1, 8, .nilFunc, false⟩) ∧ (tt 61 = some ⟨.struct (fl 61), 2, 32, .agg #[.int .i64 0, .slice none 0 0], false⟩) ∧ ((fl 61).toList = [fd 61 0, fd 61 1]) ∧ ((fl 61)[0]? = some (fd 61 0)) := ⟨fll47, fl47_0, fdt47_0, fdo47_0, fl47_1, fdt47_1, fdo47_1, fl47_2, fdt47_2, fdo47_2, tt48, tt50, tt51, tt52, tt53, tt54, zc54, fll54, fl54_0, fdt54_0, fdo54_0, fl54_1, fdt54_1, fdo54_1, tt55, fll55, fl55_0, fdt55_0, fdo55_0, fl55_1, fdt55_1, fdo55_1, tt56, tt57, tt58, tt59, tt60, tt61, fll61, fl61_0⟩
theorem tyA5 : ((fd 61 0).type = 3) ∧ ((fd 61 0).offset = 0) ∧ ((fl 61)[1]? = some (fd 61 1)) ∧ ((fd 61 1).type = 51) ∧ ((fd 61 1).offset = 1) ∧ (tt 62 = some ⟨.struct (fl 62), 2, 32, .agg #[.int .i64 0, .slice none 0 0], false⟩) ∧ ((fl 62).toList = [fd 62 0, fd 62 1]) ∧ ((fl 62)[0]? = some (fd 62 0)) ∧ ((fd 62 0).type = 3) ∧ ((fd 62 0).offset = 0) ∧ ((fl 62)[1]? = some (fd 62 1)) ∧ ((fd 62 1).type = 51) ∧ ((fd 62 1).offset = 1) ∧ (tt 63 = some ⟨.func #[62, 3] #[4] false, 1, 8, .nilFunc, false⟩) ∧ (tt 65 = some ⟨.func #[28, 3] #[38, 32, 4] false, 1, 8, .nilFunc, false⟩) ∧ (tt 66 = some ⟨.func #[23, 23] #[4] false, 1, 8, .nilFunc, false⟩) ∧ (tt 67 = some ⟨.struct (fl 67), 3, 40, .agg #[.int .i64 0, .slice none 0 0, .int .i64 0], false⟩) ∧ ((Value.agg #[.int .i64 0, .slice none 0 0, .int .i64 0]).cells.toList = [.int .i64 0, .slice none 0 0, .int .i64 0]) ∧ ((fl 67).toList = [fd 67 0, fd 67 1, fd 67 2]) ∧ ((fl 67)[0]? = some (fd 67 0)) ∧ ((fd 67 0).type = 3) ∧ ((fd 67 0).offset = 0) ∧ ((fl 67)[1]? = some (fd 67 1)) ∧ ((fd 67 1).type = 51) ∧ ((fd 67 1).offset = 1) ∧ ((fl 67)[2]? = some (fd 67 2)) ∧ ((fd 67 2).type = 3) ∧ ((fd 67 2).offset = 2) ∧ (tt 68 = some ⟨.struct (fl 68), 3, 40, .agg #[.int .i64 0, .slice none 0 0, .int .i64 0], false⟩) ∧ ((fl 68).toList = [fd 68 0, fd 68 1, fd 68 2]) ∧ ((fl 68)[0]? = some (fd 68 0)) ∧ ((fd 68 0).type = 3) ∧ ((fd 68 0).offset = 0) ∧ ((fl 68)[1]? = some (fd 68 1)) ∧ ((fd 68 1).type = 51) ∧ ((fd 68 1).offset = 1) ∧ ((fl 68)[2]? = some (fd 68 2)) ∧ ((fd 68 2).type = 3) ∧ ((fd 68 2).offset = 2) ∧ (tt 69 = some ⟨.func #[51] #[51] false, 1, 8, .nilFunc, false⟩) := ⟨fdt61_0, fdo61_0, fl61_1, fdt61_1, fdo61_1, tt62, fll62, fl62_0, fdt62_0, fdo62_0, fl62_1, fdt62_1, fdo62_1, tt63, tt65, tt66, tt67, zc67, fll67, fl67_0, fdt67_0, fdo67_0, fl67_1, fdt67_1, fdo67_1, fl67_2, fdt67_2, fdo67_2, tt68, fll68, fl68_0, fdt68_0, fdo68_0, fl68_1, fdt68_1, fdo68_1, fl68_2, fdt68_2, fdo68_2, tt69⟩
theorem tyA6 : (tt 70 = some ⟨.func #[3] #[62] false, 1, 8, .nilFunc, false⟩) ∧ (tt 71 = some ⟨.func #[47] #[4] false, 1, 8, .nilFunc, false⟩) ∧ (tt 72 = some ⟨.array 4 3, 4, 32, .agg #[.int .i64 0, .int .i64 0, .int .i64 0, .int .i64 0], false⟩) ∧ ((Value.agg #[.int .i64 0, .int .i64 0, .int .i64 0, .int .i64 0]).cells.toList = [.int .i64 0, .int .i64 0, .int .i64 0, .int .i64 0]) ∧ (tt 73 = some ⟨.func #[51, 3] #[51] false, 1, 8, .nilFunc, false⟩) ∧ (tt 74 = some ⟨.struct (fl 74), 2, 32, .agg #[.slice none 0 0, .int .i64 0], false⟩) ∧ ((Value.agg #[.slice none 0 0, .int .i64 0]).cells.toList = [.slice none 0 0, .int .i64 0]) ∧ ((fl 74).toList = [fd 74 0, fd 74 1]) ∧ ((fl 74)[0]? = some (fd 74 0)) ∧ ((fd 74 0).type = 51) ∧ ((fd 74 0).offset = 0) ∧ ((fl 74)[1]? = some (fd 74 1)) ∧ ((fd 74 1).type = 3) ∧ ((fd 74 1).offset = 1) ∧ (tt 75 = some ⟨.struct (fl 75), 2, 32, .agg #[.slice none 0 0, .int .i64 0], false⟩) ∧ ((fl 75).toList = [fd 75 0, fd 75 1]) ∧ ((fl 75)[0]? = some (fd 75 0)) ∧ ((fd 75 0).type = 51) ∧ ((fd 75 0).offset = 0) ∧ ((fl 75)[1]? = some (fd 75 1)) ∧ ((fd 75 1).type = 3) ∧ ((fd 75 1).offset = 1) ∧ (tt 76 = some ⟨.func #[25] #[4] false, 1, 8, .nilFunc, false⟩) ∧ (tt 77 = some ⟨.func #[51, 78] #[51] false, 1, 8, .nilFunc, false⟩) ∧ (tt 78 = some ⟨.int .u32, 1, 4, .int .u32 0, false⟩) ∧ (tt 79 = some ⟨.func #[51] #[78] false, 1, 8, .nilFunc, false⟩) ∧ (tt 81 = some ⟨.func #[51] #[3, 4] false, 1, 8, .nilFunc, false⟩) ∧ (tt 82 = some ⟨.func #[3, 51] #[32] false, 1, 8, .nilFunc, false⟩) ∧ (tt 83 = some ⟨.slice 51, 1, 24, .slice none 0 0, false⟩) ∧ (tt 84 = some ⟨.func #[] #[83] false, 1, 8, .nilFunc, false⟩) ∧ (tt 86 = some ⟨.func #[51] #[3, 25, 4] false, 1, 8, .nilFunc, false⟩) ∧ (tt 88 = some ⟨.func #[51] #[3, 47, 4] false, 1, 8, .nilFunc, false⟩) ∧ (tt 89 = some ⟨.array 3 3, 3, 24, .agg #[.int .i64 0, .int .i64 0, .int .i64 0], false⟩) ∧ (tt 90 = some ⟨.func #[3] #[4] false, 1, 8, .nilFunc, false⟩) ∧ (tt 91 = some ⟨.func #[23, 90] #[4] false, 1, 8, .nilFunc, false⟩) ∧ (tt 92 = some ⟨.func #[78, 5] #[78] false, 1, 8, .nilFunc, false⟩) ∧ (tt 93 = some ⟨.func #[9, 9] #[4] false, 1, 8, .nilFunc, false⟩) ∧ (tt 95 = some ⟨.func #[51, 3] #[78, 4] false, 1, 8, .nilFunc, false⟩) ∧ (tt 97 = some ⟨.func #[51] #[83, 3] false, 1, 8, .nilFunc, false⟩) ∧ (tt 98 = some ⟨.pointer 100, 1, 8, .pointer none, false⟩) := ⟨tt70, tt71, tt72, zc72, tt73, tt74, zc74, fll74, fl74_0, fdt74_0, fdo74_0, fl74_1, fdt74_1, fdo74_1, tt75, fll75, fl75_0, fdt75_0, fdo75_0, fl75_1, fdt75_1, fdo75_1, tt76, tt77, tt78, tt79, tt81, tt82, tt83, tt84, tt86, tt88, tt89, tt90, tt91, tt92, tt93, tt95, tt97, tt98⟩
theorem tyA7 : (tt 99 = some ⟨.struct (fl 99), 2, 32, .agg #[.slice none 0 0, .bool false], false⟩) ∧ ((Value.agg #[.slice none 0 0, .bool false]).cells.toList = [.slice none 0 0, .bool false]) ∧ ((fl 99).toList = [fd 99 0, fd 99 1]) ∧ ((fl 99)[0]? = some (fd 99 0)) ∧ ((fd 99 0).type = 51) ∧ ((fd 99 0).offset = 0) ∧ ((fl 99)[1]? = some (fd 99 1)) ∧ ((fd 99 1).type = 4) ∧ ((fd 99 1).offset = 1) ∧ (tt 100 = some ⟨.struct (fl 100), 2, 32, .agg #[.slice none 0 0, .bool false], false⟩) ∧ ((fl 100).toList = [fd 100 0, fd 100 1]) ∧ ((fl 100)[0]? = some (fd 100 0)) ∧ ((fd 100 0).type = 51) ∧ ((fd 100 0).offset = 0) ∧ ((fl 100)[1]? = some (fd 100 1)) ∧ ((fd 100 1).type = 4) ∧ ((fd 100 1).offset = 1) ∧ (tt 102 = some ⟨.func #[51] #[3, 3] false, 1, 8, .nilFunc, false⟩) ∧ (tt 103 = some ⟨.func #[23, 90] #[3] false, 1, 8, .nilFunc, false⟩) ∧ (tt 105 = some ⟨.func #[51, 3] #[51, 3, 39] false, 1, 8, .nilFunc, false⟩) ∧ (tt 106 = some ⟨.func #[3] #[3] false, 1, 8, .nilFunc, false⟩) ∧ (tt 107 = some ⟨.func #[] #[9] false, 1, 8, .nilFunc, false⟩) ∧ (tt 108 = some ⟨.struct (fl 108), 4, 40, .agg #[.pointer none, .pointer none, .pointer none, .string ByteArray.empty], false⟩) ∧ ((Value.agg #[.pointer none, .pointer none, .pointer none, .string ByteArray.empty]).cells.toList = [.pointer none, .pointer none, .pointer none, .string ByteArray.empty]) ∧ ((fl 108).toList = [fd 108 0, fd 108 1, fd 108 2, fd 108 3]) ∧ ((fl 108)[0]? = some (fd 108 0)) ∧ ((fd 108 0).type = 17) ∧ ((fd 108 0).offset = 0) ∧ ((fl 108)[1]? = some (fd 108 1)) ∧ ((fd 108 1).type = 17) ∧ ((fd 108 1).offset = 1) ∧ ((fl 108)[2]? = some (fd 108 2)) ∧ ((fd 108 2).type = 17) ∧ ((fd 108 2).offset = 2) ∧ ((fl 108)[3]? = some (fd 108 3)) ∧ ((fd 108 3).type = 9) ∧ ((fd 108 3).offset = 3) ∧ (tt 109 = some ⟨.struct (fl 109), 4, 40, .agg #[.pointer none, .pointer none, .pointer none, .string ByteArray.empty], false⟩) ∧ ((fl 109).toList = [fd 109 0, fd 109 1, fd 109 2, fd 109 3]) ∧ ((fl 109)[0]? = some (fd 109 0)) := ⟨tt99, zc99, fll99, fl99_0, fdt99_0, fdo99_0, fl99_1, fdt99_1, fdo99_1, tt100, fll100, fl100_0, fdt100_0, fdo100_0, fl100_1, fdt100_1, fdo100_1, tt102, tt103, tt105, tt106, tt107, tt108, zc108, fll108, fl108_0, fdt108_0, fdo108_0, fl108_1, fdt108_1, fdo108_1, fl108_2, fdt108_2, fdo108_2, fl108_3, fdt108_3, fdo108_3, tt109, fll109, fl109_0⟩
theorem tyA8 : ((fd 109 0).type = 17) ∧ ((fd 109 0).offset = 0) ∧ ((fl 109)[1]? = some (fd 109 1)) ∧ ((fd 109 1).type = 17) ∧ ((fd 109 1).offset = 1) ∧ ((fl 109)[2]? = some (fd 109 2)) ∧ ((fd 109 2).type = 17) ∧ ((fd 109 2).offset = 2) ∧ ((fl 109)[3]? = some (fd 109 3)) ∧ ((fd 109 3).type = 9) ∧ ((fd 109 3).offset = 3) ∧ (tt 113 = some ⟨.int .u8, 1, 1, .int .u8 0, false⟩) ∧ (tt 114 = some ⟨.int .u8, 1, 1, .int .u8 0, false⟩) ∧ (tt 115 = some ⟨.func #[121, 121] #[4] false, 1, 8, .nilFunc, false⟩) ∧ (tt 116 = some ⟨.pointer 5, 1, 8, .pointer none, false⟩) ∧ (tt 117 = some ⟨.int .i32, 1, 4, .int .i32 0, false⟩) ∧ (tt 118 = some ⟨.int .i32, 1, 4, .int .i32 0, false⟩) ∧ (tt 119 = some ⟨.struct (fl 119), 11, 48, .agg #[.int .u64 0, .int .u64 0, .int .u32 0, .int .u8 0, .int .u8 0, .int .u8 0, .int .u8 0, .nilFunc, .pointer none, .int .i32 0, .int .i32 0], false⟩) ∧ ((Value.agg #[.int .u64 0, .int .u64 0, .int .u32 0, .int .u8 0, .int .u8 0, .int .u8 0, .int .u8 0, .nilFunc, .pointer none, .int .i32 0, .int .i32 0]).cells.toList = [.int .u64 0, .int .u64 0, .int .u32 0, .int .u8 0, .int .u8 0, .int .u8 0, .int .u8 0, .nilFunc, .pointer none, .int .i32 0, .int .i32 0]) ∧ ((fl 119).toList = [fd 119 0, fd 119 1, fd 119 2, fd 119 3, fd 119 4, fd 119 5, fd 119 6, fd 119 7, fd 119 8, fd 119 9, fd 119 10]) ∧ ((fl 119)[0]? = some (fd 119 0)) ∧ ((fd 119 0).type = 12) ∧ ((fd 119 0).offset = 0) ∧ ((fl 119)[1]? = some (fd 119 1)) ∧ ((fd 119 1).type = 12) ∧ ((fd 119 1).offset = 1) ∧ ((fl 119)[2]? = some (fd 119 2)) ∧ ((fd 119 2).type = 78) ∧ ((fd 119 2).offset = 2) ∧ ((fl 119)[3]? = some (fd 119 3)) ∧ ((fd 119 3).type = 113) ∧ ((fd 119 3).offset = 3) ∧ ((fl 119)[4]? = some (fd 119 4)) ∧ ((fd 119 4).type = 5) ∧ ((fd 119 4).offset = 4) ∧ ((fl 119)[5]? = some (fd 119 5)) ∧ ((fd 119 5).type = 5) ∧ ((fd 119 5).offset = 5) ∧ ((fl 119)[6]? = some (fd 119 6)) ∧ ((fd 119 6).type = 114) := ⟨fdt109_0, fdo109_0, fl109_1, fdt109_1, fdo109_1, fl109_2, fdt109_2, fdo109_2, fl109_3, fdt109_3, fdo109_3, tt113, tt114, tt115, tt116, tt117, tt118, tt119, zc119, fll119, fl119_0, fdt119_0, fdo119_0, fl119_1, fdt119_1, fdo119_1, fl119_2, fdt119_2, fdo119_2, fl119_3, fdt119_3, fdo119_3, fl119_4, fdt119_4, fdo119_4, fl119_5, fdt119_5, fdo119_5, fl119_6, fdt119_6⟩
theorem tyA9 : ((fd 119 6).offset = 6) ∧ ((fl 119)[7]? = some (fd 119 7)) ∧ ((fd 119 7).type = 115) ∧ ((fd 119 7).offset = 7) ∧ ((fl 119)[8]? = some (fd 119 8)) ∧ ((fd 119 8).type = 116) ∧ ((fd 119 8).offset = 8) ∧ ((fl 119)[9]? = some (fd 119 9)) ∧ ((fd 119 9).type = 117) ∧ ((fd 119 9).offset = 9) ∧ ((fl 119)[10]? = some (fd 119 10)) ∧ ((fd 119 10).type = 118) ∧ ((fd 119 10).offset = 10) ∧ (tt 120 = some ⟨.struct (fl 120), 11, 48, .agg #[.int .u64 0, .int .u64 0, .int .u32 0, .int .u8 0, .int .u8 0, .int .u8 0, .int .u8 0, .nilFunc, .pointer none, .int .i32 0, .int .i32 0], false⟩) ∧ ((fl 120).toList = [fd 120 0, fd 120 1, fd 120 2, fd 120 3, fd 120 4, fd 120 5, fd 120 6, fd 120 7, fd 120 8, fd 120 9, fd 120 10]) ∧ ((fl 120)[0]? = some (fd 120 0)) ∧ ((fd 120 0).type = 12) ∧ ((fd 120 0).offset = 0) ∧ ((fl 120)[1]? = some (fd 120 1)) ∧ ((fd 120 1).type = 12) ∧ ((fd 120 1).offset = 1) ∧ ((fl 120)[2]? = some (fd 120 2)) ∧ ((fd 120 2).type = 78) ∧ ((fd 120 2).offset = 2) ∧ ((fl 120)[3]? = some (fd 120 3)) ∧ ((fd 120 3).type = 113) ∧ ((fd 120 3).offset = 3) ∧ ((fl 120)[4]? = some (fd 120 4)) ∧ ((fd 120 4).type = 5) ∧ ((fd 120 4).offset = 4) ∧ ((fl 120)[5]? = some (fd 120 5)) ∧ ((fd 120 5).type = 5) ∧ ((fd 120 5).offset = 5) ∧ ((fl 120)[6]? = some (fd 120 6)) ∧ ((fd 120 6).type = 114) ∧ ((fd 120 6).offset = 6) ∧ ((fl 120)[7]? = some (fd 120 7)) ∧ ((fd 120 7).type = 115) ∧ ((fd 120 7).offset = 7) ∧ ((fl 120)[8]? = some (fd 120 8)) := ⟨fdo119_6, fl119_7, fdt119_7, fdo119_7, fl119_8, fdt119_8, fdo119_8, fl119_9, fdt119_9, fdo119_9, fl119_10, fdt119_10, fdo119_10, tt120, fll120, fl120_0, fdt120_0, fdo120_0, fl120_1, fdt120_1, fdo120_1, fl120_2, fdt120_2, fdo120_2, fl120_3, fdt120_3, fdo120_3, fl120_4, fdt120_4, fdo120_4, fl120_5, fdt120_5, fdo120_5, fl120_6, fdt120_6, fdo120_6, fl120_7, fdt120_7, fdo120_7, fl120_8⟩
theorem tyA10 : ((fd 120 8).type = 116) ∧ ((fd 120 8).offset = 8) ∧ ((fl 120)[9]? = some (fd 120 9)) ∧ ((fd 120 9).type = 117) ∧ ((fd 120 9).offset = 9) ∧ ((fl 120)[10]? = some (fd 120 10)) ∧ ((fd 120 10).type = 118) ∧ ((fd 120 10).offset = 10) := ⟨fdt120_8, fdo120_8, fl120_9, fdt120_9, fdo120_9, fl120_10, fdt120_10, fdo120_10⟩
theorem tyA : type_of% (And.intro tyA0 (And.intro tyA1 (And.intro tyA2 (And.intro tyA3 (And.intro tyA4 (And.intro tyA5 (And.intro tyA6 (And.intro tyA7 (And.intro tyA8 (And.intro tyA9 (tyA10))))))))))) := And.intro tyA0 (And.intro tyA1 (And.intro tyA2 (And.intro tyA3 (And.intro tyA4 (And.intro tyA5 (And.intro tyA6 (And.intro tyA7 (And.intro tyA8 (And.intro tyA9 (tyA10))))))))))
attribute [irreducible] tt fl fd
end Go.Proofs.Ytmfonlkigjpjcaa
