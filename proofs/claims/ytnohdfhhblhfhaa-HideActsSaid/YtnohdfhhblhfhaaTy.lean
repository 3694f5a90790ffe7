/-
  DERIVED by gen_ty.py: what the program says of its types, a lemma each.
-/
import Derived.Test.YtnohdfhhblhfhaaChecked
import Derived.Test.YtnohdfhhblhfhaaAb15
import Derived.KernelRfl
namespace Go.Proofs.Ytnohdfhhblhfhaa
open Go.Ab
set_option linter.unusedSimpArgs false

noncomputable def tt : TypeId → Option TI := ttOf Try.prog
theorem ttok : TTok Try.prog tt := ttOf_ok _
noncomputable def fl (T : TypeId) : Array Field := flOf Try.prog T
noncomputable def fd (T : TypeId) (k : Nat) : Field := (fl T).getD k default

theorem tt2 : tt 2 = some ⟨.int .i64, 1, 8, .int .i64 0, false⟩ := by kernel_rfl
theorem tt3 : tt 3 = some ⟨.int .i64, 1, 8, .int .i64 0, false⟩ := by kernel_rfl
theorem tt4 : tt 4 = some ⟨.bool, 1, 1, .bool false, false⟩ := by kernel_rfl
theorem tt5 : tt 5 = some ⟨.int .u8, 1, 1, .int .u8 0, false⟩ := by kernel_rfl
theorem tt6 : tt 6 = some ⟨.int .u8, 1, 1, .int .u8 0, false⟩ := by kernel_rfl
theorem tt7 : tt 7 = some ⟨.struct (fl 7), 4, 24, .agg #[.int .i64 0, .int .i64 0, .bool false, .int .u8 0], false⟩ := by kernel_rfl
theorem zc7 : (Value.agg #[.int .i64 0, .int .i64 0, .bool false, .int .u8 0]).cells.toList = [.int .i64 0, .int .i64 0, .bool false, .int .u8 0] := by kernel_rfl
theorem fll7 : (fl 7).toList = [fd 7 0, fd 7 1, fd 7 2, fd 7 3] := by kernel_rfl
theorem fl7_0 : (fl 7)[0]? = some (fd 7 0) := by kernel_rfl
theorem fdt7_0 : (fd 7 0).type = 2 := by kernel_rfl
theorem fdo7_0 : (fd 7 0).offset = 0 := by kernel_rfl
theorem fl7_1 : (fl 7)[1]? = some (fd 7 1) := by kernel_rfl
theorem fdt7_1 : (fd 7 1).type = 3 := by kernel_rfl
theorem fdo7_1 : (fd 7 1).offset = 1 := by kernel_rfl
theorem fl7_2 : (fl 7)[2]? = some (fd 7 2) := by kernel_rfl
theorem fdt7_2 : (fd 7 2).type = 4 := by kernel_rfl
theorem fdo7_2 : (fd 7 2).offset = 2 := by kernel_rfl
theorem fl7_3 : (fl 7)[3]? = some (fd 7 3) := by kernel_rfl
theorem fdt7_3 : (fd 7 3).type = 6 := by kernel_rfl
theorem fdo7_3 : (fd 7 3).offset = 3 := by kernel_rfl
theorem tt8 : tt 8 = some ⟨.struct (fl 8), 4, 24, .agg #[.int .i64 0, .int .i64 0, .bool false, .int .u8 0], false⟩ := by kernel_rfl
theorem fll8 : (fl 8).toList = [fd 8 0, fd 8 1, fd 8 2, fd 8 3] := by kernel_rfl
theorem fl8_0 : (fl 8)[0]? = some (fd 8 0) := by kernel_rfl
theorem fdt8_0 : (fd 8 0).type = 2 := by kernel_rfl
theorem fdo8_0 : (fd 8 0).offset = 0 := by kernel_rfl
theorem fl8_1 : (fl 8)[1]? = some (fd 8 1) := by kernel_rfl
theorem fdt8_1 : (fd 8 1).type = 3 := by kernel_rfl
theorem fdo8_1 : (fd 8 1).offset = 1 := by kernel_rfl
theorem fl8_2 : (fl 8)[2]? = some (fd 8 2) := by kernel_rfl
theorem fdt8_2 : (fd 8 2).type = 4 := by kernel_rfl
theorem fdo8_2 : (fd 8 2).offset = 2 := by kernel_rfl
theorem fl8_3 : (fl 8)[3]? = some (fd 8 3) := by kernel_rfl
theorem fdt8_3 : (fd 8 3).type = 6 := by kernel_rfl
theorem fdo8_3 : (fd 8 3).offset = 3 := by kernel_rfl
theorem tt9 : tt 9 = some ⟨.string, 1, 16, .string ByteArray.empty, false⟩ := by kernel_rfl
theorem tt10 : tt 10 = some ⟨.string, 1, 16, .string ByteArray.empty, false⟩ := by kernel_rfl
theorem tt11 : tt 11 = some ⟨.string, 1, 16, .string ByteArray.empty, false⟩ := by kernel_rfl
theorem tt12 : tt 12 = some ⟨.int .u64, 1, 8, .int .u64 0, false⟩ := by kernel_rfl
theorem tt13 : tt 13 = some ⟨.struct (fl 13), 2, 24, .agg #[.string ByteArray.empty, .int .u64 0], false⟩ := by kernel_rfl
theorem zc13 : (Value.agg #[.string ByteArray.empty, .int .u64 0]).cells.toList = [.string ByteArray.empty, .int .u64 0] := by kernel_rfl
theorem fll13 : (fl 13).toList = [fd 13 0, fd 13 1] := by kernel_rfl
theorem fl13_0 : (fl 13)[0]? = some (fd 13 0) := by kernel_rfl
theorem fdt13_0 : (fd 13 0).type = 9 := by kernel_rfl
theorem fdo13_0 : (fd 13 0).offset = 0 := by kernel_rfl
theorem fl13_1 : (fl 13)[1]? = some (fd 13 1) := by kernel_rfl
theorem fdt13_1 : (fd 13 1).type = 12 := by kernel_rfl
theorem fdo13_1 : (fd 13 1).offset = 1 := by kernel_rfl
theorem tt14 : tt 14 = some ⟨.struct (fl 14), 2, 24, .agg #[.string ByteArray.empty, .int .u64 0], false⟩ := by kernel_rfl
theorem fll14 : (fl 14).toList = [fd 14 0, fd 14 1] := by kernel_rfl
theorem fl14_0 : (fl 14)[0]? = some (fd 14 0) := by kernel_rfl
theorem fdt14_0 : (fd 14 0).type = 9 := by kernel_rfl
theorem fdo14_0 : (fd 14 0).offset = 0 := by kernel_rfl
theorem fl14_1 : (fl 14)[1]? = some (fd 14 1) := by kernel_rfl
theorem fdt14_1 : (fd 14 1).type = 12 := by kernel_rfl
theorem fdo14_1 : (fd 14 1).offset = 1 := by kernel_rfl
theorem tt15 : tt 15 = some ⟨.pointer 41, 1, 8, .pointer none, false⟩ := by kernel_rfl
theorem tt16 : tt 16 = some ⟨.pointer 44, 1, 8, .pointer none, false⟩ := by kernel_rfl
theorem tt17 : tt 17 = some ⟨.pointer 54, 1, 8, .pointer none, false⟩ := by kernel_rfl
theorem tt18 : tt 18 = some ⟨.struct (fl 18), 1, 8, .agg #[.pointer none], false⟩ := by kernel_rfl
theorem zc18 : (Value.agg #[.pointer none]).cells.toList = [.pointer none] := by kernel_rfl
theorem fll18 : (fl 18).toList = [fd 18 0] := by kernel_rfl
theorem fl18_0 : (fl 18)[0]? = some (fd 18 0) := by kernel_rfl
theorem fdt18_0 : (fd 18 0).type = 17 := by kernel_rfl
theorem fdo18_0 : (fd 18 0).offset = 0 := by kernel_rfl
theorem tt19 : tt 19 = some ⟨.struct (fl 19), 1, 8, .agg #[.pointer none], false⟩ := by kernel_rfl
theorem fll19 : (fl 19).toList = [fd 19 0] := by kernel_rfl
theorem fl19_0 : (fl 19)[0]? = some (fd 19 0) := by kernel_rfl
theorem fdt19_0 : (fd 19 0).type = 17 := by kernel_rfl
theorem fdo19_0 : (fd 19 0).offset = 0 := by kernel_rfl
theorem tt21 : tt 21 = some ⟨.int .i32, 1, 4, .int .i32 0, false⟩ := by kernel_rfl
theorem tt22 : tt 22 = some ⟨.slice 3, 1, 24, .slice none 0 0, false⟩ := by kernel_rfl
theorem tt23 : tt 23 = some ⟨.slice 28, 1, 24, .slice none 0 0, false⟩ := by kernel_rfl
theorem tt25 : tt 25 = some ⟨.slice 30, 1, 24, .slice none 0 0, false⟩ := by kernel_rfl
theorem tt26 : tt 26 = some ⟨.array 8 3, 8, 64, .agg #[.int .i64 0, .int .i64 0, .int .i64 0, .int .i64 0, .int .i64 0, .int .i64 0, .int .i64 0, .int .i64 0], false⟩ := by kernel_rfl
theorem zc26 : (Value.agg #[.int .i64 0, .int .i64 0, .int .i64 0, .int .i64 0, .int .i64 0, .int .i64 0, .int .i64 0, .int .i64 0]).cells.toList = [.int .i64 0, .int .i64 0, .int .i64 0, .int .i64 0, .int .i64 0, .int .i64 0, .int .i64 0, .int .i64 0] := by kernel_rfl
theorem tt27 : tt 27 = some ⟨.struct (fl 27), 3, 24, .agg #[.int .i64 0, .int .i64 0, .int .i64 0], true⟩ := by kernel_rfl
theorem zc27 : (Value.agg #[.int .i64 0, .int .i64 0, .int .i64 0]).cells.toList = [.int .i64 0, .int .i64 0, .int .i64 0] := by kernel_rfl
theorem fll27 : (fl 27).toList = [fd 27 0, fd 27 1, fd 27 2] := by kernel_rfl
theorem fl27_0 : (fl 27)[0]? = some (fd 27 0) := by kernel_rfl
theorem fdt27_0 : (fd 27 0).type = 3 := by kernel_rfl
theorem fdo27_0 : (fd 27 0).offset = 0 := by kernel_rfl
theorem fl27_1 : (fl 27)[1]? = some (fd 27 1) := by kernel_rfl
theorem fdt27_1 : (fd 27 1).type = 3 := by kernel_rfl
theorem fdo27_1 : (fd 27 1).offset = 1 := by kernel_rfl
theorem fl27_2 : (fl 27)[2]? = some (fd 27 2) := by kernel_rfl
theorem fdt27_2 : (fd 27 2).type = 3 := by kernel_rfl
theorem fdo27_2 : (fd 27 2).offset = 2 := by kernel_rfl
theorem tt28 : tt 28 = some ⟨.struct (fl 28), 3, 24, .agg #[.int .i64 0, .int .i64 0, .int .i64 0], true⟩ := by kernel_rfl
theorem fll28 : (fl 28).toList = [fd 28 0, fd 28 1, fd 28 2] := by kernel_rfl
theorem fl28_0 : (fl 28)[0]? = some (fd 28 0) := by kernel_rfl
theorem fdt28_0 : (fd 28 0).type = 3 := by kernel_rfl
theorem fdo28_0 : (fd 28 0).offset = 0 := by kernel_rfl
theorem fl28_1 : (fl 28)[1]? = some (fd 28 1) := by kernel_rfl
theorem fdt28_1 : (fd 28 1).type = 3 := by kernel_rfl
theorem fdo28_1 : (fd 28 1).offset = 1 := by kernel_rfl
theorem fl28_2 : (fl 28)[2]? = some (fd 28 2) := by kernel_rfl
theorem fdt28_2 : (fd 28 2).type = 3 := by kernel_rfl
theorem fdo28_2 : (fd 28 2).offset = 2 := by kernel_rfl
theorem tt29 : tt 29 = some ⟨.struct (fl 29), 2, 16, .agg #[.int .i64 0, .int .i64 0], true⟩ := by kernel_rfl
theorem zc29 : (Value.agg #[.int .i64 0, .int .i64 0]).cells.toList = [.int .i64 0, .int .i64 0] := by kernel_rfl
theorem fll29 : (fl 29).toList = [fd 29 0, fd 29 1] := by kernel_rfl
theorem fl29_0 : (fl 29)[0]? = some (fd 29 0) := by kernel_rfl
theorem fdt29_0 : (fd 29 0).type = 3 := by kernel_rfl
theorem fdo29_0 : (fd 29 0).offset = 0 := by kernel_rfl
theorem fl29_1 : (fl 29)[1]? = some (fd 29 1) := by kernel_rfl
theorem fdt29_1 : (fd 29 1).type = 3 := by kernel_rfl
theorem fdo29_1 : (fd 29 1).offset = 1 := by kernel_rfl
theorem tt30 : tt 30 = some ⟨.struct (fl 30), 2, 16, .agg #[.int .i64 0, .int .i64 0], true⟩ := by kernel_rfl
theorem fll30 : (fl 30).toList = [fd 30 0, fd 30 1] := by kernel_rfl
theorem fl30_0 : (fl 30)[0]? = some (fd 30 0) := by kernel_rfl
theorem fdt30_0 : (fd 30 0).type = 3 := by kernel_rfl
theorem fdo30_0 : (fd 30 0).offset = 0 := by kernel_rfl
theorem fl30_1 : (fl 30)[1]? = some (fd 30 1) := by kernel_rfl
theorem fdt30_1 : (fd 30 1).type = 3 := by kernel_rfl
theorem fdo30_1 : (fd 30 1).offset = 1 := by kernel_rfl
theorem tt40 : tt 40 = some ⟨.struct (fl 40), 4, 40, .agg #[.pointer none, .pointer none, .pointer none, .string ByteArray.empty], false⟩ := by kernel_rfl
theorem zc40 : (Value.agg #[.pointer none, .pointer none, .pointer none, .string ByteArray.empty]).cells.toList = [.pointer none, .pointer none, .pointer none, .string ByteArray.empty] := by kernel_rfl
theorem fll40 : (fl 40).toList = [fd 40 0, fd 40 1, fd 40 2, fd 40 3] := by kernel_rfl
theorem fl40_0 : (fl 40)[0]? = some (fd 40 0) := by kernel_rfl
theorem fdt40_0 : (fd 40 0).type = 17 := by kernel_rfl
theorem fdo40_0 : (fd 40 0).offset = 0 := by kernel_rfl
theorem fl40_1 : (fl 40)[1]? = some (fd 40 1) := by kernel_rfl
theorem fdt40_1 : (fd 40 1).type = 17 := by kernel_rfl
theorem fdo40_1 : (fd 40 1).offset = 1 := by kernel_rfl
theorem fl40_2 : (fl 40)[2]? = some (fd 40 2) := by kernel_rfl
theorem fdt40_2 : (fd 40 2).type = 17 := by kernel_rfl
theorem fdo40_2 : (fd 40 2).offset = 2 := by kernel_rfl
theorem fl40_3 : (fl 40)[3]? = some (fd 40 3) := by kernel_rfl
theorem fdt40_3 : (fd 40 3).type = 9 := by kernel_rfl
theorem fdo40_3 : (fd 40 3).offset = 3 := by kernel_rfl
theorem tt41 : tt 41 = some ⟨.struct (fl 41), 4, 40, .agg #[.pointer none, .pointer none, .pointer none, .string ByteArray.empty], false⟩ := by kernel_rfl
theorem fll41 : (fl 41).toList = [fd 41 0, fd 41 1, fd 41 2, fd 41 3] := by kernel_rfl
theorem fl41_0 : (fl 41)[0]? = some (fd 41 0) := by kernel_rfl
theorem fdt41_0 : (fd 41 0).type = 17 := by kernel_rfl
theorem fdo41_0 : (fd 41 0).offset = 0 := by kernel_rfl
theorem fl41_1 : (fl 41)[1]? = some (fd 41 1) := by kernel_rfl
theorem fdt41_1 : (fd 41 1).type = 17 := by kernel_rfl
theorem fdo41_1 : (fd 41 1).offset = 1 := by kernel_rfl
theorem fl41_2 : (fl 41)[2]? = some (fd 41 2) := by kernel_rfl
theorem fdt41_2 : (fd 41 2).type = 17 := by kernel_rfl
theorem fdo41_2 : (fd 41 2).offset = 2 := by kernel_rfl
theorem fl41_3 : (fl 41)[3]? = some (fd 41 3) := by kernel_rfl
theorem fdt41_3 : (fd 41 3).type = 9 := by kernel_rfl
theorem fdo41_3 : (fd 41 3).offset = 3 := by kernel_rfl
theorem tt46 : tt 46 = some ⟨.int .u32, 1, 4, .int .u32 0, false⟩ := by kernel_rfl
theorem tt47 : tt 47 = some ⟨.int .u8, 1, 1, .int .u8 0, false⟩ := by kernel_rfl
theorem tt48 : tt 48 = some ⟨.int .u8, 1, 1, .int .u8 0, false⟩ := by kernel_rfl
theorem tt50 : tt 50 = some ⟨.pointer 5, 1, 8, .pointer none, false⟩ := by kernel_rfl
theorem tt51 : tt 51 = some ⟨.int .i32, 1, 4, .int .i32 0, false⟩ := by kernel_rfl
theorem tt52 : tt 52 = some ⟨.int .i32, 1, 4, .int .i32 0, false⟩ := by kernel_rfl
theorem tt53 : tt 53 = some ⟨.struct (fl 53), 11, 48, .agg #[.int .u64 0, .int .u64 0, .int .u32 0, .int .u8 0, .int .u8 0, .int .u8 0, .int .u8 0, .nilFunc, .pointer none, .int .i32 0, .int .i32 0], false⟩ := by kernel_rfl
theorem zc53 : (Value.agg #[.int .u64 0, .int .u64 0, .int .u32 0, .int .u8 0, .int .u8 0, .int .u8 0, .int .u8 0, .nilFunc, .pointer none, .int .i32 0, .int .i32 0]).cells.toList = [.int .u64 0, .int .u64 0, .int .u32 0, .int .u8 0, .int .u8 0, .int .u8 0, .int .u8 0, .nilFunc, .pointer none, .int .i32 0, .int .i32 0] := by kernel_rfl
theorem fll53 : (fl 53).toList = [fd 53 0, fd 53 1, fd 53 2, fd 53 3, fd 53 4, fd 53 5, fd 53 6, fd 53 7, fd 53 8, fd 53 9, fd 53 10] := by kernel_rfl
theorem fl53_0 : (fl 53)[0]? = some (fd 53 0) := by kernel_rfl
theorem fdt53_0 : (fd 53 0).type = 12 := by kernel_rfl
theorem fdo53_0 : (fd 53 0).offset = 0 := by kernel_rfl
theorem fl53_1 : (fl 53)[1]? = some (fd 53 1) := by kernel_rfl
theorem fdt53_1 : (fd 53 1).type = 12 := by kernel_rfl
theorem fdo53_1 : (fd 53 1).offset = 1 := by kernel_rfl
theorem fl53_2 : (fl 53)[2]? = some (fd 53 2) := by kernel_rfl
theorem fdt53_2 : (fd 53 2).type = 46 := by kernel_rfl
theorem fdo53_2 : (fd 53 2).offset = 2 := by kernel_rfl
theorem fl53_3 : (fl 53)[3]? = some (fd 53 3) := by kernel_rfl
theorem fdt53_3 : (fd 53 3).type = 47 := by kernel_rfl
theorem fdo53_3 : (fd 53 3).offset = 3 := by kernel_rfl
theorem fl53_4 : (fl 53)[4]? = some (fd 53 4) := by kernel_rfl
theorem fdt53_4 : (fd 53 4).type = 5 := by kernel_rfl
theorem fdo53_4 : (fd 53 4).offset = 4 := by kernel_rfl
theorem fl53_5 : (fl 53)[5]? = some (fd 53 5) := by kernel_rfl
theorem fdt53_5 : (fd 53 5).type = 5 := by kernel_rfl
theorem fdo53_5 : (fd 53 5).offset = 5 := by kernel_rfl
theorem fl53_6 : (fl 53)[6]? = some (fd 53 6) := by kernel_rfl
theorem fdt53_6 : (fd 53 6).type = 48 := by kernel_rfl
theorem fdo53_6 : (fd 53 6).offset = 6 := by kernel_rfl
theorem fl53_7 : (fl 53)[7]? = some (fd 53 7) := by kernel_rfl
theorem fdt53_7 : (fd 53 7).type = 49 := by kernel_rfl
theorem fdo53_7 : (fd 53 7).offset = 7 := by kernel_rfl
theorem fl53_8 : (fl 53)[8]? = some (fd 53 8) := by kernel_rfl
theorem fdt53_8 : (fd 53 8).type = 50 := by kernel_rfl
theorem fdo53_8 : (fd 53 8).offset = 8 := by kernel_rfl
theorem fl53_9 : (fl 53)[9]? = some (fd 53 9) := by kernel_rfl
theorem fdt53_9 : (fd 53 9).type = 51 := by kernel_rfl
theorem fdo53_9 : (fd 53 9).offset = 9 := by kernel_rfl
theorem fl53_10 : (fl 53)[10]? = some (fd 53 10) := by kernel_rfl
theorem fdt53_10 : (fd 53 10).type = 52 := by kernel_rfl
theorem fdo53_10 : (fd 53 10).offset = 10 := by kernel_rfl
theorem tt54 : tt 54 = some ⟨.struct (fl 54), 11, 48, .agg #[.int .u64 0, .int .u64 0, .int .u32 0, .int .u8 0, .int .u8 0, .int .u8 0, .int .u8 0, .nilFunc, .pointer none, .int .i32 0, .int .i32 0], false⟩ := by kernel_rfl
theorem fll54 : (fl 54).toList = [fd 54 0, fd 54 1, fd 54 2, fd 54 3, fd 54 4, fd 54 5, fd 54 6, fd 54 7, fd 54 8, fd 54 9, fd 54 10] := by kernel_rfl
theorem fl54_0 : (fl 54)[0]? = some (fd 54 0) := by kernel_rfl
theorem fdt54_0 : (fd 54 0).type = 12 := by kernel_rfl
theorem fdo54_0 : (fd 54 0).offset = 0 := by kernel_rfl
theorem fl54_1 : (fl 54)[1]? = some (fd 54 1) := by kernel_rfl
theorem fdt54_1 : (fd 54 1).type = 12 := by kernel_rfl
theorem fdo54_1 : (fd 54 1).offset = 1 := by kernel_rfl
theorem fl54_2 : (fl 54)[2]? = some (fd 54 2) := by kernel_rfl
theorem fdt54_2 : (fd 54 2).type = 46 := by kernel_rfl
theorem fdo54_2 : (fd 54 2).offset = 2 := by kernel_rfl
theorem fl54_3 : (fl 54)[3]? = some (fd 54 3) := by kernel_rfl
theorem fdt54_3 : (fd 54 3).type = 47 := by kernel_rfl
theorem fdo54_3 : (fd 54 3).offset = 3 := by kernel_rfl
theorem fl54_4 : (fl 54)[4]? = some (fd 54 4) := by kernel_rfl
theorem fdt54_4 : (fd 54 4).type = 5 := by kernel_rfl
theorem fdo54_4 : (fd 54 4).offset = 4 := by kernel_rfl
theorem fl54_5 : (fl 54)[5]? = some (fd 54 5) := by kernel_rfl
theorem fdt54_5 : (fd 54 5).type = 5 := by kernel_rfl
theorem fdo54_5 : (fd 54 5).offset = 5 := by kernel_rfl
theorem fl54_6 : (fl 54)[6]? = some (fd 54 6) := by kernel_rfl
theorem fdt54_6 : (fd 54 6).type = 48 := by kernel_rfl
theorem fdo54_6 : (fd 54 6).offset = 6 := by kernel_rfl
theorem fl54_7 : (fl 54)[7]? = some (fd 54 7) := by kernel_rfl
theorem fdt54_7 : (fd 54 7).type = 49 := by kernel_rfl
theorem fdo54_7 : (fd 54 7).offset = 7 := by kernel_rfl
theorem fl54_8 : (fl 54)[8]? = some (fd 54 8) := by kernel_rfl
theorem fdt54_8 : (fd 54 8).type = 50 := by kernel_rfl
theorem fdo54_8 : (fd 54 8).offset = 8 := by kernel_rfl
theorem fl54_9 : (fl 54)[9]? = some (fd 54 9) := by kernel_rfl
theorem fdt54_9 : (fd 54 9).type = 51 := by kernel_rfl
theorem fdo54_9 : (fd 54 9).offset = 9 := by kernel_rfl
theorem fl54_10 : (fl 54)[10]? = some (fd 54 10) := by kernel_rfl
theorem fdt54_10 : (fd 54 10).type = 52 := by kernel_rfl
theorem fdo54_10 : (fd 54 10).offset = 10 := by kernel_rfl
theorem fnok3 : FnOk Try.prog 3 := ⟨_, Try.func3, by kernel_rfl, by kernel_rfl⟩
theorem fnok4 : FnOk Try.prog 4 := ⟨_, Try.func4, by kernel_rfl, by kernel_rfl⟩
theorem fnok5 : FnOk Try.prog 5 := ⟨_, Try.func5, by kernel_rfl, by kernel_rfl⟩
theorem fnok6 : FnOk Try.prog 6 := ⟨_, Try.func6, by kernel_rfl, by kernel_rfl⟩
theorem fnok7 : FnOk Try.prog 7 := ⟨_, Try.func7, by kernel_rfl, by kernel_rfl⟩
theorem fnok8 : FnOk Try.prog 8 := ⟨_, Try.func8, by kernel_rfl, by kernel_rfl⟩
theorem fnok9 : FnOk Try.prog 9 := ⟨_, Try.func9, by kernel_rfl, by kernel_rfl⟩
theorem fnok10 : FnOk Try.prog 10 := ⟨_, Try.func10, by kernel_rfl, by kernel_rfl⟩
theorem fnok11 : FnOk Try.prog 11 := ⟨_, Try.func11, by kernel_rfl, by kernel_rfl⟩
theorem tyA0 : (tt 2 = some ⟨.int .i64, 1, 8, .int .i64 0, false⟩) ∧ (tt 3 = some ⟨.int .i64, 1, 8, .int .i64 0, false⟩) ∧ (tt 4 = some ⟨.bool, 1, 1, .bool false, false⟩) ∧ (tt 5 = some ⟨.int .u8, 1, 1, .int .u8 0, false⟩) ∧ (tt 6 = some ⟨.int .u8, 1, 1, .int .u8 0, false⟩) ∧ (tt 7 = some ⟨.struct (fl 7), 4, 24, .agg #[.int .i64 0, .int .i64 0, .bool false, .int .u8 0], false⟩) ∧ ((Value.agg #[.int .i64 0, .int .i64 0, .bool false, .int .u8 0]).cells.toList = [.int .i64 0, .int .i64 0, .bool false, .int .u8 0]) ∧ ((fl 7).toList = [fd 7 0, fd 7 1, fd 7 2, fd 7 3]) ∧ ((fl 7)[0]? = some (fd 7 0)) ∧ ((fd 7 0).type = 2) ∧ ((fd 7 0).offset = 0) ∧ ((fl 7)[1]? = some (fd 7 1)) ∧ ((fd 7 1).type = 3) ∧ ((fd 7 1).offset = 1) ∧ ((fl 7)[2]? = some (fd 7 2)) ∧ ((fd 7 2).type = 4) ∧ ((fd 7 2).offset = 2) ∧ ((fl 7)[3]? = some (fd 7 3)) ∧ ((fd 7 3).type = 6) ∧ ((fd 7 3).offset = 3) ∧ (tt 8 = some ⟨.struct (fl 8), 4, 24, .agg #[.int .i64 0, .int .i64 0, .bool false, .int .u8 0], false⟩) ∧ ((fl 8).toList = [fd 8 0, fd 8 1, fd 8 2, fd 8 3]) ∧ ((fl 8)[0]? = some (fd 8 0)) ∧ ((fd 8 0).type = 2) ∧ ((fd 8 0).offset = 0) ∧ ((fl 8)[1]? = some (fd 8 1)) ∧ ((fd 8 1).type = 3) ∧ ((fd 8 1).offset = 1) ∧ ((fl 8)[2]? = some (fd 8 2)) ∧ ((fd 8 2).type = 4) ∧ ((fd 8 2).offset = 2) ∧ ((fl 8)[3]? = some (fd 8 3)) ∧ ((fd 8 3).type = 6) ∧ ((fd 8 3).offset = 3) ∧ (tt 9 = some ⟨.string, 1, 16, .string ByteArray.empty, false⟩) ∧ (tt 10 = some ⟨.string, 1, 16, .string ByteArray.empty, false⟩) ∧ (tt 11 = some ⟨.string, 1, 16, .string ByteArray.empty, false⟩) ∧ (tt 12 = some ⟨.int .u64, 1, 8, .int .u64 0, false⟩) ∧ (tt 13 = some ⟨.struct (fl 13), 2, 24, .agg #[.string ByteArray.empty, .int .u64 0], false⟩) ∧ ((Value.agg #[.string ByteArray.empty, .int .u64 0]).cells.toList = [.string ByteArray.empty, .int .u64 0]) := ⟨tt2, tt3, tt4, tt5, tt6, tt7, zc7, fll7, fl7_0, fdt7_0, fdo7_0, fl7_1, fdt7_1, fdo7_1, fl7_2, fdt7_2, fdo7_2, fl7_3, fdt7_3, fdo7_3, tt8, fll8, fl8_0, fdt8_0, fdo8_0, fl8_1, fdt8_1, fdo8_1, fl8_2, fdt8_2, fdo8_2, fl8_3, fdt8_3, fdo8_3, tt9, tt10, tt11, tt12, tt13, zc13⟩
theorem tyA1 : ((fl 13).toList = [fd 13 0, fd 13 1]) ∧ ((fl 13)[0]? = some (fd 13 0)) ∧ ((fd 13 0).type = 9) ∧ ((fd 13 0).offset = 0) ∧ ((fl 13)[1]? = some (fd 13 1)) ∧ ((fd 13 1).type = 12) ∧ ((fd 13 1).offset = 1) ∧ (tt 14 = some ⟨.struct (fl 14), 2, 24, .agg #[.string ByteArray.empty, .int .u64 0], false⟩) ∧ ((fl 14).toList = [fd 14 0, fd 14 1]) ∧ ((fl 14)[0]? = some (fd 14 0)) ∧ ((fd 14 0).type = 9) ∧ ((fd 14 0).offset = 0) ∧ ((fl 14)[1]? = some (fd 14 1)) ∧ ((fd 14 1).type = 12) ∧ ((fd 14 1).offset = 1) ∧ (tt 15 = some ⟨.pointer 41, 1, 8, .pointer none, false⟩) ∧ (tt 16 = some ⟨.pointer 44, 1, 8, .pointer none, false⟩) ∧ (tt 17 = some ⟨.pointer 54, 1, 8, .pointer none, false⟩) ∧ (tt 18 = some ⟨.struct (fl 18), 1, 8, .agg #[.pointer none], false⟩) ∧ ((Value.agg #[.pointer none]).cells.toList = [.pointer none]) ∧ ((fl 18).toList = [fd 18 0]) ∧ ((fl 18)[0]? = some (fd 18 0)) ∧ ((fd 18 0).type = 17) ∧ ((fd 18 0).offset = 0) ∧ (tt 19 = some ⟨.struct (fl 19), 1, 8, .agg #[.pointer none], false⟩) ∧ ((fl 19).toList = [fd 19 0]) ∧ ((fl 19)[0]? = some (fd 19 0)) ∧ ((fd 19 0).type = 17) ∧ ((fd 19 0).offset = 0) ∧ (tt 21 = some ⟨.int .i32, 1, 4, .int .i32 0, false⟩) ∧ (tt 22 = some ⟨.slice 3, 1, 24, .slice none 0 0, false⟩) ∧ (tt 23 = some ⟨.slice 28, 1, 24, .slice none 0 0, false⟩) ∧ (tt 25 = some ⟨.slice 30, 1, 24, .slice none 0 0, false⟩) ∧ (tt 26 = some ⟨.array 8 3, 8, 64, .agg #[.int .i64 0, .int .i64 0, .int .i64 0, .int .i64 0, .int .i64 0, .int .i64 0, .int .i64 0, .int .i64 0], false⟩) ∧ ((Value.agg #[.int .i64 0, .int .i64 0, .int .i64 0, .int .i64 0, .int .i64 0, .int .i64 0, .int .i64 0, .int .i64 0]).cells.toList = [.int .i64 0, .int .i64 0, .int .i64 0, .int .i64 0, .int .i64 0, .int .i64 0, .int .i64 0, .int .i64 0]) ∧ (tt 27 = some ⟨.struct (fl 27), 3, 24, .agg #[.int .i64 0, .int .i64 0, .int .i64 0], true⟩) ∧ ((Value.agg #[.int .i64 0, .int .i64 0, .int .i64 0]).cells.toList = [.int .i64 0, .int .i64 0, .int .i64 0]) ∧ ((fl 27).toList = [fd 27 0, fd 27 1, fd 27 2]) ∧ ((fl 27)[0]? = some (fd 27 0)) ∧ ((fd 27 0).type = 3) := ⟨fll13, fl13_0, fdt13_0, fdo13_0, fl13_1, fdt13_1, fdo13_1, tt14, fll14, fl14_0, fdt14_0, fdo14_0, fl14_1, fdt14_1, fdo14_1, tt15, tt16, tt17, tt18, zc18, fll18, fl18_0, fdt18_0, fdo18_0, tt19, fll19, fl19_0, fdt19_0, fdo19_0, tt21, tt22, tt23, tt25, tt26, zc26, tt27, zc27, fll27, fl27_0, fdt27_0⟩
theorem tyA2 : ((fd 27 0).offset = 0) ∧ ((fl 27)[1]? = some (fd 27 1)) ∧ ((fd 27 1).type = 3) ∧ ((fd 27 1).offset = 1) ∧ ((fl 27)[2]? = some (fd 27 2)) ∧ ((fd 27 2).type = 3) ∧ ((fd 27 2).offset = 2) ∧ (tt 28 = some ⟨.struct (fl 28), 3, 24, .agg #[.int .i64 0, .int .i64 0, .int .i64 0], true⟩) ∧ ((fl 28).toList = [fd 28 0, fd 28 1, fd 28 2]) ∧ ((fl 28)[0]? = some (fd 28 0)) ∧ ((fd 28 0).type = 3) ∧ ((fd 28 0).offset = 0) ∧ ((fl 28)[1]? = some (fd 28 1)) ∧ ((fd 28 1).type = 3) ∧ ((fd 28 1).offset = 1) ∧ ((fl 28)[2]? = some (fd 28 2)) ∧ ((fd 28 2).type = 3) ∧ ((fd 28 2).offset = 2) ∧ (tt 29 = some ⟨.struct (fl 29), 2, 16, .agg #[.int .i64 0, .int .i64 0], true⟩) ∧ ((Value.agg #[.int .i64 0, .int .i64 0]).cells.toList = [.int .i64 0, .int .i64 0]) ∧ ((fl 29).toList = [fd 29 0, fd 29 1]) ∧ ((fl 29)[0]? = some (fd 29 0)) ∧ ((fd 29 0).type = 3) ∧ ((fd 29 0).offset = 0) ∧ ((fl 29)[1]? = some (fd 29 1)) ∧ ((fd 29 1).type = 3) ∧ ((fd 29 1).offset = 1) ∧ (tt 30 = some ⟨.struct (fl 30), 2, 16, .agg #[.int .i64 0, .int .i64 0], true⟩) ∧ ((fl 30).toList = [fd 30 0, fd 30 1]) ∧ ((fl 30)[0]? = some (fd 30 0)) ∧ ((fd 30 0).type = 3) ∧ ((fd 30 0).offset = 0) ∧ ((fl 30)[1]? = some (fd 30 1)) ∧ ((fd 30 1).type = 3) ∧ ((fd 30 1).offset = 1) ∧ (tt 40 = some ⟨.struct (fl 40), 4, 40, .agg #[.pointer none, .pointer none, .pointer none, .string ByteArray.empty], false⟩) ∧ ((Value.agg #[.pointer none, .pointer none, .pointer none, .string ByteArray.empty]).cells.toList = [.pointer none, .pointer none, .pointer none, .string ByteArray.empty]) ∧ ((fl 40).toList = [fd 40 0, fd 40 1, fd 40 2, fd 40 3]) ∧ ((fl 40)[0]? = some (fd 40 0)) ∧ ((fd 40 0).type = 17) := ⟨fdo27_0, fl27_1, fdt27_1, fdo27_1, fl27_2, fdt27_2, fdo27_2, tt28, fll28, fl28_0, fdt28_0, fdo28_0, fl28_1, fdt28_1, fdo28_1, fl28_2, fdt28_2, fdo28_2, tt29, zc29, fll29, fl29_0, fdt29_0, fdo29_0, fl29_1, fdt29_1, fdo29_1, tt30, fll30, fl30_0, fdt30_0, fdo30_0, fl30_1, fdt30_1, fdo30_1, tt40, zc40, fll40, fl40_0, fdt40_0⟩
theorem tyA3 : ((fd 40 0).offset = 0) ∧ ((fl 40)[1]? = some (fd 40 1)) ∧ ((fd 40 1).type = 17) ∧ ((fd 40 1).offset = 1) ∧ ((fl 40)[2]? = some (fd 40 2)) ∧ ((fd 40 2).type = 17) ∧ ((fd 40 2).offset = 2) ∧ ((fl 40)[3]? = some (fd 40 3)) ∧ ((fd 40 3).type = 9) ∧ ((fd 40 3).offset = 3) ∧ (tt 41 = some ⟨.struct (fl 41), 4, 40, .agg #[.pointer none, .pointer none, .pointer none, .string ByteArray.empty], false⟩) ∧ ((fl 41).toList = [fd 41 0, fd 41 1, fd 41 2, fd 41 3]) ∧ ((fl 41)[0]? = some (fd 41 0)) ∧ ((fd 41 0).type = 17) ∧ ((fd 41 0).offset = 0) ∧ ((fl 41)[1]? = some (fd 41 1)) ∧ ((fd 41 1).type = 17) ∧ ((fd 41 1).offset = 1) ∧ ((fl 41)[2]? = some (fd 41 2)) ∧ ((fd 41 2).type = 17) ∧ ((fd 41 2).offset = 2) ∧ ((fl 41)[3]? = some (fd 41 3)) ∧ ((fd 41 3).type = 9) ∧ ((fd 41 3).offset = 3) ∧ (tt 46 = some ⟨.int .u32, 1, 4, .int .u32 0, false⟩) ∧ (tt 47 = some ⟨.int .u8, 1, 1, .int .u8 0, false⟩) ∧ (tt 48 = some ⟨.int .u8, 1, 1, .int .u8 0, false⟩) ∧ (tt 50 = some ⟨.pointer 5, 1, 8, .pointer none, false⟩) ∧ (tt 51 = some ⟨.int .i32, 1, 4, .int .i32 0, false⟩) ∧ (tt 52 = some ⟨.int .i32, 1, 4, .int .i32 0, false⟩) ∧ (tt 53 = some ⟨.struct (fl 53), 11, 48, .agg #[.int .u64 0, .int .u64 0, .int .u32 0, .int .u8 0, .int .u8 0, .int .u8 0, .int .u8 0, .nilFunc, .pointer none, .int .i32 0, .int .i32 0], false⟩) ∧ ((Value.agg #[.int .u64 0, .int .u64 0, .int .u32 0, .int .u8 0, .int .u8 0, .int .u8 0, .int .u8 0, .nilFunc, .pointer none, .int .i32 0, .int .i32 0]).cells.toList = [.int .u64 0, .int .u64 0, .int .u32 0, .int .u8 0, .int .u8 0, .int .u8 0, .int .u8 0, .nilFunc, .pointer none, .int .i32 0, .int .i32 0]) ∧ ((fl 53).toList = [fd 53 0, fd 53 1, fd 53 2, fd 53 3, fd 53 4, fd 53 5, fd 53 6, fd 53 7, fd 53 8, fd 53 9, fd 53 10]) ∧ ((fl 53)[0]? = some (fd 53 0)) ∧ ((fd 53 0).type = 12) ∧ ((fd 53 0).offset = 0) ∧ ((fl 53)[1]? = some (fd 53 1)) ∧ ((fd 53 1).type = 12) ∧ ((fd 53 1).offset = 1) ∧ ((fl 53)[2]? = some (fd 53 2)) := ⟨fdo40_0, fl40_1, fdt40_1, fdo40_1, fl40_2, fdt40_2, fdo40_2, fl40_3, fdt40_3, fdo40_3, tt41, fll41, fl41_0, fdt41_0, fdo41_0, fl41_1, fdt41_1, fdo41_1, fl41_2, fdt41_2, fdo41_2, fl41_3, fdt41_3, fdo41_3, tt46, tt47, tt48, tt50, tt51, tt52, tt53, zc53, fll53, fl53_0, fdt53_0, fdo53_0, fl53_1, fdt53_1, fdo53_1, fl53_2⟩
theorem tyA4 : ((fd 53 2).type = 46) ∧ ((fd 53 2).offset = 2) ∧ ((fl 53)[3]? = some (fd 53 3)) ∧ ((fd 53 3).type = 47) ∧ ((fd 53 3).offset = 3) ∧ ((fl 53)[4]? = some (fd 53 4)) ∧ ((fd 53 4).type = 5) ∧ ((fd 53 4).offset = 4) ∧ ((fl 53)[5]? = some (fd 53 5)) ∧ ((fd 53 5).type = 5) ∧ ((fd 53 5).offset = 5) ∧ ((fl 53)[6]? = some (fd 53 6)) ∧ ((fd 53 6).type = 48) ∧ ((fd 53 6).offset = 6) ∧ ((fl 53)[7]? = some (fd 53 7)) ∧ ((fd 53 7).type = 49) ∧ ((fd 53 7).offset = 7) ∧ ((fl 53)[8]? = some (fd 53 8)) ∧ ((fd 53 8).type = 50) ∧ ((fd 53 8).offset = 8) ∧ ((fl 53)[9]? = some (fd 53 9)) ∧ ((fd 53 9).type = 51) ∧ ((fd 53 9).offset = 9) ∧ ((fl 53)[10]? = some (fd 53 10)) ∧ ((fd 53 10).type = 52) ∧ ((fd 53 10).offset = 10) ∧ (tt 54 = some ⟨.struct (fl 54), 11, 48, .agg #[.int .u64 0, .int .u64 0, .int .u32 0, .int .u8 0, .int .u8 0, .int .u8 0, .int .u8 0, .nilFunc, .pointer none, .int .i32 0, .int .i32 0], false⟩) ∧ ((fl 54).toList = [fd 54 0, fd 54 1, fd 54 2, fd 54 3, fd 54 4, fd 54 5, fd 54 6, fd 54 7, fd 54 8, fd 54 9, fd 54 10]) ∧ ((fl 54)[0]? = some (fd 54 0)) ∧ ((fd 54 0).type = 12) ∧ ((fd 54 0).offset = 0) ∧ ((fl 54)[1]? = some (fd 54 1)) ∧ ((fd 54 1).type = 12) ∧ ((fd 54 1).offset = 1) ∧ ((fl 54)[2]? = some (fd 54 2)) ∧ ((fd 54 2).type = 46) ∧ ((fd 54 2).offset = 2) ∧ ((fl 54)[3]? = some (fd 54 3)) ∧ ((fd 54 3).type = 47) ∧ ((fd 54 3).offset = 3) := ⟨fdt53_2, fdo53_2, fl53_3, fdt53_3, fdo53_3, fl53_4, fdt53_4, fdo53_4, fl53_5, fdt53_5, fdo53_5, fl53_6, fdt53_6, fdo53_6, fl53_7, fdt53_7, fdo53_7, fl53_8, fdt53_8, fdo53_8, fl53_9, fdt53_9, fdo53_9, fl53_10, fdt53_10, fdo53_10, tt54, fll54, fl54_0, fdt54_0, fdo54_0, fl54_1, fdt54_1, fdo54_1, fl54_2, fdt54_2, fdo54_2, fl54_3, fdt54_3, fdo54_3⟩
theorem tyA5 : ((fl 54)[4]? = some (fd 54 4)) ∧ ((fd 54 4).type = 5) ∧ ((fd 54 4).offset = 4) ∧ ((fl 54)[5]? = some (fd 54 5)) ∧ ((fd 54 5).type = 5) ∧ ((fd 54 5).offset = 5) ∧ ((fl 54)[6]? = some (fd 54 6)) ∧ ((fd 54 6).type = 48) ∧ ((fd 54 6).offset = 6) ∧ ((fl 54)[7]? = some (fd 54 7)) ∧ ((fd 54 7).type = 49) ∧ ((fd 54 7).offset = 7) ∧ ((fl 54)[8]? = some (fd 54 8)) ∧ ((fd 54 8).type = 50) ∧ ((fd 54 8).offset = 8) ∧ ((fl 54)[9]? = some (fd 54 9)) ∧ ((fd 54 9).type = 51) ∧ ((fd 54 9).offset = 9) ∧ ((fl 54)[10]? = some (fd 54 10)) ∧ ((fd 54 10).type = 52) ∧ ((fd 54 10).offset = 10) := ⟨fl54_4, fdt54_4, fdo54_4, fl54_5, fdt54_5, fdo54_5, fl54_6, fdt54_6, fdo54_6, fl54_7, fdt54_7, fdo54_7, fl54_8, fdt54_8, fdo54_8, fl54_9, fdt54_9, fdo54_9, fl54_10, fdt54_10, fdo54_10⟩
attribute [irreducible] tt fl fd
end Go.Proofs.Ytnohdfhhblhfhaa
