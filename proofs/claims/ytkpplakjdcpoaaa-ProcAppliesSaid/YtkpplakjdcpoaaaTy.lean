import Derived.Test.YtkpplakjdcpoaaaChecked
import Derived.Test.YtkpplakjdcpoaaaAbD
import Derived.KernelRfl
namespace Go.Proofs.Ytkpplakjdcpoaaa
open Go.Ab
set_option linter.unusedSimpArgs false
noncomputable def tt : TypeId → Option TI := ttOf Try.prog
theorem ttok : TTok Try.prog tt := ttOf_ok _
noncomputable def fl (T : TypeId) : Array Field := flOf Try.prog T
noncomputable def fd (T : TypeId) (k : Nat) : Field := (fl T).getD k default
theorem tt1 : tt 1 = some ⟨.func #[] #[] false, 1, 8, .nilFunc, false⟩ := by kernel_rfl
theorem tt2 : tt 2 = some ⟨.int .i64, 1, 8, .int .i64 0, false⟩ := by kernel_rfl
theorem tt3 : tt 3 = some ⟨.int .i64, 1, 8, .int .i64 0, false⟩ := by kernel_rfl
theorem tt4 : tt 4 = some ⟨.bool, 1, 1, .bool false, false⟩ := by kernel_rfl
theorem tt5 : tt 5 = some ⟨.int .u8, 1, 1, .int .u8 0, false⟩ := by kernel_rfl
theorem tt6 : tt 6 = some ⟨.int .u8, 1, 1, .int .u8 0, false⟩ := by kernel_rfl
theorem tt7 : tt 7 = some ⟨.struct (fl 7), 4, 24, .agg #[.int .i64 0, .int .i64 0, .bool false, .int .u8 0], false⟩ := by kernel_rfl
theorem zc7 : (Value.agg #[.int .i64 0, .int .i64 0, .bool false, .int .u8 0]).cells.toList = [.int .i64 0, .int .i64 0, .bool false, .int .u8 0] := by kernel_rfl
theorem fll7 : (fl 7).toList = [fd 7 0, fd 7 1, fd 7 2, fd 7 3] := by kernel_rfl
theorem fl7_0 : (fl 7)[0]? = some (fd 7 0) := by kernel_rfl
theorem fdt7_0 : (fd 7 0).type = 2 := by kernel_rfl
theorem fdo7_0 : (fd 7 0).offset = 0 := by kernel_rfl
theorem fl7_1 : (fl 7)[1]? = some (fd 7 1) := by kernel_rfl
theorem fdt7_1 : (fd 7 1).type = 3 := by kernel_rfl
theorem fdo7_1 : (fd 7 1).offset = 1 := by kernel_rfl
theorem fl7_2 : (fl 7)[2]? = some (fd 7 2) := by kernel_rfl
theorem fdt7_2 : (fd 7 2).type = 4 := by kernel_rfl
theorem fdo7_2 : (fd 7 2).offset = 2 := by kernel_rfl
theorem fl7_3 : (fl 7)[3]? = some (fd 7 3) := by kernel_rfl
theorem fdt7_3 : (fd 7 3).type = 6 := by kernel_rfl
theorem fdo7_3 : (fd 7 3).offset = 3 := by kernel_rfl
theorem tt8 : tt 8 = some ⟨.struct (fl 8), 4, 24, .agg #[.int .i64 0, .int .i64 0, .bool false, .int .u8 0], false⟩ := by kernel_rfl
theorem fll8 : (fl 8).toList = [fd 8 0, fd 8 1, fd 8 2, fd 8 3] := by kernel_rfl
theorem fl8_0 : (fl 8)[0]? = some (fd 8 0) := by kernel_rfl
theorem fdt8_0 : (fd 8 0).type = 2 := by kernel_rfl
theorem fdo8_0 : (fd 8 0).offset = 0 := by kernel_rfl
theorem fl8_1 : (fl 8)[1]? = some (fd 8 1) := by kernel_rfl
theorem fdt8_1 : (fd 8 1).type = 3 := by kernel_rfl
theorem fdo8_1 : (fd 8 1).offset = 1 := by kernel_rfl
theorem fl8_2 : (fl 8)[2]? = some (fd 8 2) := by kernel_rfl
theorem fdt8_2 : (fd 8 2).type = 4 := by kernel_rfl
theorem fdo8_2 : (fd 8 2).offset = 2 := by kernel_rfl
theorem fl8_3 : (fl 8)[3]? = some (fd 8 3) := by kernel_rfl
theorem fdt8_3 : (fd 8 3).type = 6 := by kernel_rfl
theorem fdo8_3 : (fd 8 3).offset = 3 := by kernel_rfl
theorem tt9 : tt 9 = some ⟨.string, 1, 16, .string ByteArray.empty, false⟩ := by kernel_rfl
theorem tt10 : tt 10 = some ⟨.string, 1, 16, .string ByteArray.empty, false⟩ := by kernel_rfl
theorem tt11 : tt 11 = some ⟨.string, 1, 16, .string ByteArray.empty, false⟩ := by kernel_rfl
theorem tt12 : tt 12 = some ⟨.int .u64, 1, 8, .int .u64 0, false⟩ := by kernel_rfl
theorem tt13 : tt 13 = some ⟨.struct (fl 13), 2, 24, .agg #[.string ByteArray.empty, .int .u64 0], false⟩ := by kernel_rfl
theorem zc13 : (Value.agg #[.string ByteArray.empty, .int .u64 0]).cells.toList = [.string ByteArray.empty, .int .u64 0] := by kernel_rfl
theorem fll13 : (fl 13).toList = [fd 13 0, fd 13 1] := by kernel_rfl
theorem fl13_0 : (fl 13)[0]? = some (fd 13 0) := by kernel_rfl
theorem fdt13_0 : (fd 13 0).type = 9 := by kernel_rfl
theorem fdo13_0 : (fd 13 0).offset = 0 := by kernel_rfl
theorem fl13_1 : (fl 13)[1]? = some (fd 13 1) := by kernel_rfl
theorem fdt13_1 : (fd 13 1).type = 12 := by kernel_rfl
theorem fdo13_1 : (fd 13 1).offset = 1 := by kernel_rfl
theorem tt14 : tt 14 = some ⟨.struct (fl 14), 2, 24, .agg #[.string ByteArray.empty, .int .u64 0], false⟩ := by kernel_rfl
theorem fll14 : (fl 14).toList = [fd 14 0, fd 14 1] := by kernel_rfl
theorem fl14_0 : (fl 14)[0]? = some (fd 14 0) := by kernel_rfl
theorem fdt14_0 : (fd 14 0).type = 9 := by kernel_rfl
theorem fdo14_0 : (fd 14 0).offset = 0 := by kernel_rfl
theorem fl14_1 : (fl 14)[1]? = some (fd 14 1) := by kernel_rfl
theorem fdt14_1 : (fd 14 1).type = 12 := by kernel_rfl
theorem fdo14_1 : (fd 14 1).offset = 1 := by kernel_rfl
theorem tt15 : tt 15 = some ⟨.pointer 140, 1, 8, .pointer none, false⟩ := by kernel_rfl
theorem tt16 : tt 16 = some ⟨.pointer 143, 1, 8, .pointer none, false⟩ := by kernel_rfl
theorem tt17 : tt 17 = some ⟨.pointer 152, 1, 8, .pointer none, false⟩ := by kernel_rfl
theorem tt18 : tt 18 = some ⟨.struct (fl 18), 1, 8, .agg #[.pointer none], false⟩ := by kernel_rfl
theorem zc18 : (Value.agg #[.pointer none]).cells.toList = [.pointer none] := by kernel_rfl
theorem fll18 : (fl 18).toList = [fd 18 0] := by kernel_rfl
theorem fl18_0 : (fl 18)[0]? = some (fd 18 0) := by kernel_rfl
theorem fdt18_0 : (fd 18 0).type = 17 := by kernel_rfl
theorem fdo18_0 : (fd 18 0).offset = 0 := by kernel_rfl
theorem tt19 : tt 19 = some ⟨.struct (fl 19), 1, 8, .agg #[.pointer none], false⟩ := by kernel_rfl
theorem fll19 : (fl 19).toList = [fd 19 0] := by kernel_rfl
theorem fl19_0 : (fl 19)[0]? = some (fd 19 0) := by kernel_rfl
theorem fdt19_0 : (fd 19 0).type = 17 := by kernel_rfl
theorem fdo19_0 : (fd 19 0).offset = 0 := by kernel_rfl
theorem tt21 : tt 21 = some ⟨.int .i32, 1, 4, .int .i32 0, false⟩ := by kernel_rfl
theorem tt22 : tt 22 = some ⟨.slice 23, 1, 24, .slice none 0 0, false⟩ := by kernel_rfl
theorem tt23 : tt 23 = some ⟨.array 3 3, 3, 24, .agg #[.int .i64 0, .int .i64 0, .int .i64 0], false⟩ := by kernel_rfl
theorem zc23 : (Value.agg #[.int .i64 0, .int .i64 0, .int .i64 0]).cells.toList = [.int .i64 0, .int .i64 0, .int .i64 0] := by kernel_rfl
theorem tt24 : tt 24 = some ⟨.slice 3, 1, 24, .slice none 0 0, false⟩ := by kernel_rfl
theorem tt25 : tt 25 = some ⟨.slice 4, 1, 24, .slice none 0 0, false⟩ := by kernel_rfl
theorem tt26 : tt 26 = some ⟨.slice 24, 1, 24, .slice none 0 0, false⟩ := by kernel_rfl
theorem tt27 : tt 27 = some ⟨.struct (fl 27), 4, 64, .agg #[.int .i64 0, .int .i64 0, .slice none 0 0, .slice none 0 0], false⟩ := by kernel_rfl
theorem zc27 : (Value.agg #[.int .i64 0, .int .i64 0, .slice none 0 0, .slice none 0 0]).cells.toList = [.int .i64 0, .int .i64 0, .slice none 0 0, .slice none 0 0] := by kernel_rfl
theorem fll27 : (fl 27).toList = [fd 27 0, fd 27 1, fd 27 2, fd 27 3] := by kernel_rfl
theorem fl27_0 : (fl 27)[0]? = some (fd 27 0) := by kernel_rfl
theorem fdt27_0 : (fd 27 0).type = 3 := by kernel_rfl
theorem fdo27_0 : (fd 27 0).offset = 0 := by kernel_rfl
theorem fl27_1 : (fl 27)[1]? = some (fd 27 1) := by kernel_rfl
theorem fdt27_1 : (fd 27 1).type = 3 := by kernel_rfl
theorem fdo27_1 : (fd 27 1).offset = 1 := by kernel_rfl
theorem fl27_2 : (fl 27)[2]? = some (fd 27 2) := by kernel_rfl
theorem fdt27_2 : (fd 27 2).type = 25 := by kernel_rfl
theorem fdo27_2 : (fd 27 2).offset = 2 := by kernel_rfl
theorem fl27_3 : (fl 27)[3]? = some (fd 27 3) := by kernel_rfl
theorem fdt27_3 : (fd 27 3).type = 26 := by kernel_rfl
theorem fdo27_3 : (fd 27 3).offset = 3 := by kernel_rfl
theorem tt28 : tt 28 = some ⟨.struct (fl 28), 4, 64, .agg #[.int .i64 0, .int .i64 0, .slice none 0 0, .slice none 0 0], false⟩ := by kernel_rfl
theorem fll28 : (fl 28).toList = [fd 28 0, fd 28 1, fd 28 2, fd 28 3] := by kernel_rfl
theorem fl28_0 : (fl 28)[0]? = some (fd 28 0) := by kernel_rfl
theorem fdt28_0 : (fd 28 0).type = 3 := by kernel_rfl
theorem fdo28_0 : (fd 28 0).offset = 0 := by kernel_rfl
theorem fl28_1 : (fl 28)[1]? = some (fd 28 1) := by kernel_rfl
theorem fdt28_1 : (fd 28 1).type = 3 := by kernel_rfl
theorem fdo28_1 : (fd 28 1).offset = 1 := by kernel_rfl
theorem fl28_2 : (fl 28)[2]? = some (fd 28 2) := by kernel_rfl
theorem fdt28_2 : (fd 28 2).type = 25 := by kernel_rfl
theorem fdo28_2 : (fd 28 2).offset = 2 := by kernel_rfl
theorem fl28_3 : (fl 28)[3]? = some (fd 28 3) := by kernel_rfl
theorem fdt28_3 : (fd 28 3).type = 26 := by kernel_rfl
theorem fdo28_3 : (fd 28 3).offset = 3 := by kernel_rfl
theorem tt29 : tt 29 = some ⟨.slice 53, 1, 24, .slice none 0 0, false⟩ := by kernel_rfl
theorem tt31 : tt 31 = some ⟨.func #[22, 3, 33] #[28, 29] false, 1, 8, .nilFunc, false⟩ := by kernel_rfl
theorem tt32 : tt 32 = some ⟨.int .u64, 1, 8, .int .u64 0, false⟩ := by kernel_rfl
theorem tt33 : tt 33 = some ⟨.array 2 3, 2, 16, .agg #[.int .i64 0, .int .i64 0], false⟩ := by kernel_rfl
theorem zc33 : (Value.agg #[.int .i64 0, .int .i64 0]).cells.toList = [.int .i64 0, .int .i64 0] := by kernel_rfl
theorem tt34 : tt 34 = some ⟨.slice 40, 1, 24, .slice none 0 0, false⟩ := by kernel_rfl
theorem tt36 : tt 36 = some ⟨.func #[28, 29] #[34, 4] false, 1, 8, .nilFunc, false⟩ := by kernel_rfl
theorem tt37 : tt 37 = some ⟨.func #[] #[4] false, 1, 8, .nilFunc, false⟩ := by kernel_rfl
theorem tt38 : tt 38 = some ⟨.slice 51, 1, 24, .slice none 0 0, false⟩ := by kernel_rfl
theorem tt39 : tt 39 = some ⟨.struct (fl 39), 6, 96, .agg #[.int .i64 0, .slice none 0 0, .int .i64 0, .int .i64 0, .slice none 0 0, .slice none 0 0], false⟩ := by kernel_rfl
theorem zc39 : (Value.agg #[.int .i64 0, .slice none 0 0, .int .i64 0, .int .i64 0, .slice none 0 0, .slice none 0 0]).cells.toList = [.int .i64 0, .slice none 0 0, .int .i64 0, .int .i64 0, .slice none 0 0, .slice none 0 0] := by kernel_rfl
theorem fll39 : (fl 39).toList = [fd 39 0, fd 39 1, fd 39 2] := by kernel_rfl
theorem fl39_0 : (fl 39)[0]? = some (fd 39 0) := by kernel_rfl
theorem fdt39_0 : (fd 39 0).type = 3 := by kernel_rfl
theorem fdo39_0 : (fd 39 0).offset = 0 := by kernel_rfl
theorem fl39_1 : (fl 39)[1]? = some (fd 39 1) := by kernel_rfl
theorem fdt39_1 : (fd 39 1).type = 38 := by kernel_rfl
theorem fdo39_1 : (fd 39 1).offset = 1 := by kernel_rfl
theorem fl39_2 : (fl 39)[2]? = some (fd 39 2) := by kernel_rfl
theorem fdt39_2 : (fd 39 2).type = 28 := by kernel_rfl
theorem fdo39_2 : (fd 39 2).offset = 2 := by kernel_rfl
theorem tt40 : tt 40 = some ⟨.struct (fl 40), 6, 96, .agg #[.int .i64 0, .slice none 0 0, .int .i64 0, .int .i64 0, .slice none 0 0, .slice none 0 0], false⟩ := by kernel_rfl
theorem fll40 : (fl 40).toList = [fd 40 0, fd 40 1, fd 40 2] := by kernel_rfl
theorem fl40_0 : (fl 40)[0]? = some (fd 40 0) := by kernel_rfl
theorem fdt40_0 : (fd 40 0).type = 3 := by kernel_rfl
theorem fdo40_0 : (fd 40 0).offset = 0 := by kernel_rfl
theorem fl40_1 : (fl 40)[1]? = some (fd 40 1) := by kernel_rfl
theorem fdt40_1 : (fd 40 1).type = 38 := by kernel_rfl
theorem fdo40_1 : (fd 40 1).offset = 1 := by kernel_rfl
theorem fl40_2 : (fl 40)[2]? = some (fd 40 2) := by kernel_rfl
theorem fdt40_2 : (fd 40 2).type = 28 := by kernel_rfl
theorem fdo40_2 : (fd 40 2).offset = 2 := by kernel_rfl
theorem tt41 : tt 41 = some ⟨.slice 55, 1, 24, .slice none 0 0, false⟩ := by kernel_rfl
theorem tt42 : tt 42 = some ⟨.struct (fl 42), 4, 64, .agg #[.int .i64 0, .int .i64 0, .slice none 0 0, .slice none 0 0], false⟩ := by kernel_rfl
theorem fll42 : (fl 42).toList = [fd 42 0, fd 42 1, fd 42 2, fd 42 3] := by kernel_rfl
theorem fl42_0 : (fl 42)[0]? = some (fd 42 0) := by kernel_rfl
theorem fdt42_0 : (fd 42 0).type = 3 := by kernel_rfl
theorem fdo42_0 : (fd 42 0).offset = 0 := by kernel_rfl
theorem fl42_1 : (fl 42)[1]? = some (fd 42 1) := by kernel_rfl
theorem fdt42_1 : (fd 42 1).type = 3 := by kernel_rfl
theorem fdo42_1 : (fd 42 1).offset = 1 := by kernel_rfl
theorem fl42_2 : (fl 42)[2]? = some (fd 42 2) := by kernel_rfl
theorem fdt42_2 : (fd 42 2).type = 41 := by kernel_rfl
theorem fdo42_2 : (fd 42 2).offset = 2 := by kernel_rfl
theorem fl42_3 : (fl 42)[3]? = some (fd 42 3) := by kernel_rfl
theorem fdt42_3 : (fd 42 3).type = 24 := by kernel_rfl
theorem fdo42_3 : (fd 42 3).offset = 3 := by kernel_rfl
theorem tt43 : tt 43 = some ⟨.struct (fl 43), 4, 64, .agg #[.int .i64 0, .int .i64 0, .slice none 0 0, .slice none 0 0], false⟩ := by kernel_rfl
theorem fll43 : (fl 43).toList = [fd 43 0, fd 43 1, fd 43 2, fd 43 3] := by kernel_rfl
theorem fl43_0 : (fl 43)[0]? = some (fd 43 0) := by kernel_rfl
theorem fdt43_0 : (fd 43 0).type = 3 := by kernel_rfl
theorem fdo43_0 : (fd 43 0).offset = 0 := by kernel_rfl
theorem fl43_1 : (fl 43)[1]? = some (fd 43 1) := by kernel_rfl
theorem fdt43_1 : (fd 43 1).type = 3 := by kernel_rfl
theorem fdo43_1 : (fd 43 1).offset = 1 := by kernel_rfl
theorem fl43_2 : (fl 43)[2]? = some (fd 43 2) := by kernel_rfl
theorem fdt43_2 : (fd 43 2).type = 41 := by kernel_rfl
theorem fdo43_2 : (fd 43 2).offset = 2 := by kernel_rfl
theorem fl43_3 : (fl 43)[3]? = some (fd 43 3) := by kernel_rfl
theorem fdt43_3 : (fd 43 3).type = 24 := by kernel_rfl
theorem fdo43_3 : (fd 43 3).offset = 3 := by kernel_rfl
theorem tt44 : tt 44 = some ⟨.func #[3, 3] #[43] false, 1, 8, .nilFunc, false⟩ := by kernel_rfl
theorem tt45 : tt 45 = some ⟨.array 3 24, 3, 72, .agg #[.slice none 0 0, .slice none 0 0, .slice none 0 0], false⟩ := by kernel_rfl
theorem zc45 : (Value.agg #[.slice none 0 0, .slice none 0 0, .slice none 0 0]).cells.toList = [.slice none 0 0, .slice none 0 0, .slice none 0 0] := by kernel_rfl
theorem tt46 : tt 46 = some ⟨.slice 58, 1, 24, .slice none 0 0, false⟩ := by kernel_rfl
theorem tt48 : tt 48 = some ⟨.func #[40, 29, 43, 3] #[43, 4] false, 1, 8, .nilFunc, false⟩ := by kernel_rfl
theorem tt49 : tt 49 = some ⟨.func #[43, 43] #[4] false, 1, 8, .nilFunc, false⟩ := by kernel_rfl
theorem tt50 : tt 50 = some ⟨.struct (fl 50), 2, 16, .agg #[.int .i64 0, .int .i64 0], true⟩ := by kernel_rfl
theorem fll50 : (fl 50).toList = [fd 50 0, fd 50 1] := by kernel_rfl
theorem fl50_0 : (fl 50)[0]? = some (fd 50 0) := by kernel_rfl
theorem fdt50_0 : (fd 50 0).type = 3 := by kernel_rfl
theorem fdo50_0 : (fd 50 0).offset = 0 := by kernel_rfl
theorem fl50_1 : (fl 50)[1]? = some (fd 50 1) := by kernel_rfl
theorem fdt50_1 : (fd 50 1).type = 3 := by kernel_rfl
theorem fdo50_1 : (fd 50 1).offset = 1 := by kernel_rfl
theorem tt51 : tt 51 = some ⟨.struct (fl 51), 2, 16, .agg #[.int .i64 0, .int .i64 0], true⟩ := by kernel_rfl
theorem fll51 : (fl 51).toList = [fd 51 0, fd 51 1] := by kernel_rfl
theorem fl51_0 : (fl 51)[0]? = some (fd 51 0) := by kernel_rfl
theorem fdt51_0 : (fd 51 0).type = 3 := by kernel_rfl
theorem fdo51_0 : (fd 51 0).offset = 0 := by kernel_rfl
theorem fl51_1 : (fl 51)[1]? = some (fd 51 1) := by kernel_rfl
theorem fdt51_1 : (fd 51 1).type = 3 := by kernel_rfl
theorem fdo51_1 : (fd 51 1).offset = 1 := by kernel_rfl
theorem tt52 : tt 52 = some ⟨.struct (fl 52), 3, 24, .agg #[.int .i64 0, .int .i64 0, .int .i64 0], true⟩ := by kernel_rfl
theorem fll52 : (fl 52).toList = [fd 52 0, fd 52 1, fd 52 2] := by kernel_rfl
theorem fl52_0 : (fl 52)[0]? = some (fd 52 0) := by kernel_rfl
theorem fdt52_0 : (fd 52 0).type = 3 := by kernel_rfl
theorem fdo52_0 : (fd 52 0).offset = 0 := by kernel_rfl
theorem fl52_1 : (fl 52)[1]? = some (fd 52 1) := by kernel_rfl
theorem fdt52_1 : (fd 52 1).type = 3 := by kernel_rfl
theorem fdo52_1 : (fd 52 1).offset = 1 := by kernel_rfl
theorem fl52_2 : (fl 52)[2]? = some (fd 52 2) := by kernel_rfl
theorem fdt52_2 : (fd 52 2).type = 3 := by kernel_rfl
theorem fdo52_2 : (fd 52 2).offset = 2 := by kernel_rfl
theorem tt53 : tt 53 = some ⟨.struct (fl 53), 3, 24, .agg #[.int .i64 0, .int .i64 0, .int .i64 0], true⟩ := by kernel_rfl
theorem fll53 : (fl 53).toList = [fd 53 0, fd 53 1, fd 53 2] := by kernel_rfl
theorem fl53_0 : (fl 53)[0]? = some (fd 53 0) := by kernel_rfl
theorem fdt53_0 : (fd 53 0).type = 3 := by kernel_rfl
theorem fdo53_0 : (fd 53 0).offset = 0 := by kernel_rfl
theorem fl53_1 : (fl 53)[1]? = some (fd 53 1) := by kernel_rfl
theorem fdt53_1 : (fd 53 1).type = 3 := by kernel_rfl
theorem fdo53_1 : (fd 53 1).offset = 1 := by kernel_rfl
theorem fl53_2 : (fl 53)[2]? = some (fd 53 2) := by kernel_rfl
theorem fdt53_2 : (fd 53 2).type = 3 := by kernel_rfl
theorem fdo53_2 : (fd 53 2).offset = 2 := by kernel_rfl
theorem tt54 : tt 54 = some ⟨.struct (fl 54), 2, 32, .agg #[.int .i64 0, .slice none 0 0], false⟩ := by kernel_rfl
theorem zc54 : (Value.agg #[.int .i64 0, .slice none 0 0]).cells.toList = [.int .i64 0, .slice none 0 0] := by kernel_rfl
theorem fll54 : (fl 54).toList = [fd 54 0, fd 54 1] := by kernel_rfl
theorem fl54_0 : (fl 54)[0]? = some (fd 54 0) := by kernel_rfl
theorem fdt54_0 : (fd 54 0).type = 3 := by kernel_rfl
theorem fdo54_0 : (fd 54 0).offset = 0 := by kernel_rfl
theorem fl54_1 : (fl 54)[1]? = some (fd 54 1) := by kernel_rfl
theorem fdt54_1 : (fd 54 1).type = 24 := by kernel_rfl
theorem fdo54_1 : (fd 54 1).offset = 1 := by kernel_rfl
theorem tt55 : tt 55 = some ⟨.struct (fl 55), 2, 32, .agg #[.int .i64 0, .slice none 0 0], false⟩ := by kernel_rfl
theorem fll55 : (fl 55).toList = [fd 55 0, fd 55 1] := by kernel_rfl
theorem fl55_0 : (fl 55)[0]? = some (fd 55 0) := by kernel_rfl
theorem fdt55_0 : (fd 55 0).type = 3 := by kernel_rfl
theorem fdo55_0 : (fd 55 0).offset = 0 := by kernel_rfl
theorem fl55_1 : (fl 55)[1]? = some (fd 55 1) := by kernel_rfl
theorem fdt55_1 : (fd 55 1).type = 24 := by kernel_rfl
theorem fdo55_1 : (fd 55 1).offset = 1 := by kernel_rfl
theorem tt56 : tt 56 = some ⟨.func #[24, 24] #[4] false, 1, 8, .nilFunc, false⟩ := by kernel_rfl
theorem tt57 : tt 57 = some ⟨.struct (fl 57), 3, 24, .agg #[.int .i64 0, .int .i64 0, .int .i64 0], true⟩ := by kernel_rfl
theorem fll57 : (fl 57).toList = [fd 57 0, fd 57 1, fd 57 2] := by kernel_rfl
theorem fl57_0 : (fl 57)[0]? = some (fd 57 0) := by kernel_rfl
theorem fdt57_0 : (fd 57 0).type = 3 := by kernel_rfl
theorem fdo57_0 : (fd 57 0).offset = 0 := by kernel_rfl
theorem fl57_1 : (fl 57)[1]? = some (fd 57 1) := by kernel_rfl
theorem fdt57_1 : (fd 57 1).type = 3 := by kernel_rfl
theorem fdo57_1 : (fd 57 1).offset = 1 := by kernel_rfl
theorem fl57_2 : (fl 57)[2]? = some (fd 57 2) := by kernel_rfl
theorem fdt57_2 : (fd 57 2).type = 3 := by kernel_rfl
theorem fdo57_2 : (fd 57 2).offset = 2 := by kernel_rfl
theorem tt58 : tt 58 = some ⟨.struct (fl 58), 3, 24, .agg #[.int .i64 0, .int .i64 0, .int .i64 0], true⟩ := by kernel_rfl
theorem fll58 : (fl 58).toList = [fd 58 0, fd 58 1, fd 58 2] := by kernel_rfl
theorem fl58_0 : (fl 58)[0]? = some (fd 58 0) := by kernel_rfl
theorem fdt58_0 : (fd 58 0).type = 3 := by kernel_rfl
theorem fdo58_0 : (fd 58 0).offset = 0 := by kernel_rfl
theorem fl58_1 : (fl 58)[1]? = some (fd 58 1) := by kernel_rfl
theorem fdt58_1 : (fd 58 1).type = 3 := by kernel_rfl
theorem fdo58_1 : (fd 58 1).offset = 1 := by kernel_rfl
theorem fl58_2 : (fl 58)[2]? = some (fd 58 2) := by kernel_rfl
theorem fdt58_2 : (fd 58 2).type = 3 := by kernel_rfl
theorem fdo58_2 : (fd 58 2).offset = 2 := by kernel_rfl
theorem tt59 : tt 59 = some ⟨.func #[43, 3] #[58] false, 1, 8, .nilFunc, false⟩ := by kernel_rfl
theorem tt60 : tt 60 = some ⟨.func #[40, 29, 43, 46] #[43, 4] false, 1, 8, .nilFunc, false⟩ := by kernel_rfl
theorem tt61 : tt 61 = some ⟨.func #[22, 23, 24] #[4] false, 1, 8, .nilFunc, false⟩ := by kernel_rfl
theorem tt62 : tt 62 = some ⟨.func #[22, 3, 33] #[28] false, 1, 8, .nilFunc, false⟩ := by kernel_rfl
theorem tt63 : tt 63 = some ⟨.func #[3] #[29] false, 1, 8, .nilFunc, false⟩ := by kernel_rfl
theorem tt64 : tt 64 = some ⟨.int .i64, 1, 8, .int .i64 0, false⟩ := by kernel_rfl
theorem tt66 : tt 66 = some ⟨.func #[28, 29, 3] #[28, 38, 64] false, 1, 8, .nilFunc, false⟩ := by kernel_rfl
theorem tt67 : tt 67 = some ⟨.func #[28] #[4] false, 1, 8, .nilFunc, false⟩ := by kernel_rfl
theorem tt68 : tt 68 = some ⟨.func #[40, 3, 51] #[3] false, 1, 8, .nilFunc, false⟩ := by kernel_rfl
theorem tt69 : tt 69 = some ⟨.func #[53, 3] #[3] false, 1, 8, .nilFunc, false⟩ := by kernel_rfl
theorem tt70 : tt 70 = some ⟨.func #[43] #[43] false, 1, 8, .nilFunc, false⟩ := by kernel_rfl
theorem tt72 : tt 72 = some ⟨.func #[75] #[28, 64] false, 1, 8, .nilFunc, false⟩ := by kernel_rfl
theorem tt73 : tt 73 = some ⟨.slice 88, 1, 24, .slice none 0 0, false⟩ := by kernel_rfl
theorem tt74 : tt 74 = some ⟨.struct (fl 74), 4, 64, .agg #[.int .i64 0, .int .i64 0, .slice none 0 0, .slice none 0 0], false⟩ := by kernel_rfl
theorem fll74 : (fl 74).toList = [fd 74 0, fd 74 1, fd 74 2, fd 74 3] := by kernel_rfl
theorem fl74_0 : (fl 74)[0]? = some (fd 74 0) := by kernel_rfl
theorem fdt74_0 : (fd 74 0).type = 3 := by kernel_rfl
theorem fdo74_0 : (fd 74 0).offset = 0 := by kernel_rfl
theorem fl74_1 : (fl 74)[1]? = some (fd 74 1) := by kernel_rfl
theorem fdt74_1 : (fd 74 1).type = 3 := by kernel_rfl
theorem fdo74_1 : (fd 74 1).offset = 1 := by kernel_rfl
theorem fl74_2 : (fl 74)[2]? = some (fd 74 2) := by kernel_rfl
theorem fdt74_2 : (fd 74 2).type = 25 := by kernel_rfl
theorem fdo74_2 : (fd 74 2).offset = 2 := by kernel_rfl
theorem fl74_3 : (fl 74)[3]? = some (fd 74 3) := by kernel_rfl
theorem fdt74_3 : (fd 74 3).type = 73 := by kernel_rfl
theorem fdo74_3 : (fd 74 3).offset = 3 := by kernel_rfl
theorem tt75 : tt 75 = some ⟨.struct (fl 75), 4, 64, .agg #[.int .i64 0, .int .i64 0, .slice none 0 0, .slice none 0 0], false⟩ := by kernel_rfl
theorem fll75 : (fl 75).toList = [fd 75 0, fd 75 1, fd 75 2, fd 75 3] := by kernel_rfl
theorem fl75_0 : (fl 75)[0]? = some (fd 75 0) := by kernel_rfl
theorem fdt75_0 : (fd 75 0).type = 3 := by kernel_rfl
theorem fdo75_0 : (fd 75 0).offset = 0 := by kernel_rfl
theorem fl75_1 : (fl 75)[1]? = some (fd 75 1) := by kernel_rfl
theorem fdt75_1 : (fd 75 1).type = 3 := by kernel_rfl
theorem fdo75_1 : (fd 75 1).offset = 1 := by kernel_rfl
theorem fl75_2 : (fl 75)[2]? = some (fd 75 2) := by kernel_rfl
theorem fdt75_2 : (fd 75 2).type = 25 := by kernel_rfl
theorem fdo75_2 : (fd 75 2).offset = 2 := by kernel_rfl
theorem fl75_3 : (fl 75)[3]? = some (fd 75 3) := by kernel_rfl
theorem fdt75_3 : (fd 75 3).type = 73 := by kernel_rfl
theorem fdo75_3 : (fd 75 3).offset = 3 := by kernel_rfl
theorem tt76 : tt 76 = some ⟨.func #[28, 29, 3] #[75] false, 1, 8, .nilFunc, false⟩ := by kernel_rfl
theorem tt77 : tt 77 = some ⟨.func #[29, 3] #[38] false, 1, 8, .nilFunc, false⟩ := by kernel_rfl
theorem tt78 : tt 78 = some ⟨.func #[28, 3, 3] #[3] false, 1, 8, .nilFunc, false⟩ := by kernel_rfl
theorem tt79 : tt 79 = some ⟨.func #[40, 51] #[3] false, 1, 8, .nilFunc, false⟩ := by kernel_rfl
theorem tt80 : tt 80 = some ⟨.func #[41] #[41] false, 1, 8, .nilFunc, false⟩ := by kernel_rfl
theorem tt81 : tt 81 = some ⟨.func #[24] #[24] false, 1, 8, .nilFunc, false⟩ := by kernel_rfl
theorem tt82 : tt 82 = some ⟨.func #[26, 85] #[4] false, 1, 8, .nilFunc, false⟩ := by kernel_rfl
theorem tt83 : tt 83 = some ⟨.func #[24, 84] #[4] false, 1, 8, .nilFunc, false⟩ := by kernel_rfl
theorem tt84 : tt 84 = some ⟨.func #[3] #[4] false, 1, 8, .nilFunc, false⟩ := by kernel_rfl
theorem tt85 : tt 85 = some ⟨.func #[24] #[4] false, 1, 8, .nilFunc, false⟩ := by kernel_rfl
theorem tt86 : tt 86 = some ⟨.func #[28] #[28, 64] false, 1, 8, .nilFunc, false⟩ := by kernel_rfl
theorem tt87 : tt 87 = some ⟨.func #[28] #[75] false, 1, 8, .nilFunc, false⟩ := by kernel_rfl
theorem tt88 : tt 88 = some ⟨.slice 90, 1, 24, .slice none 0 0, false⟩ := by kernel_rfl
theorem tt89 : tt 89 = some ⟨.struct (fl 89), 2, 16, .agg #[.int .i64 0, .int .i64 0], true⟩ := by kernel_rfl
theorem fll89 : (fl 89).toList = [fd 89 0, fd 89 1] := by kernel_rfl
theorem fl89_0 : (fl 89)[0]? = some (fd 89 0) := by kernel_rfl
theorem fdt89_0 : (fd 89 0).type = 3 := by kernel_rfl
theorem fdo89_0 : (fd 89 0).offset = 0 := by kernel_rfl
theorem fl89_1 : (fl 89)[1]? = some (fd 89 1) := by kernel_rfl
theorem fdt89_1 : (fd 89 1).type = 3 := by kernel_rfl
theorem fdo89_1 : (fd 89 1).offset = 1 := by kernel_rfl
theorem tt90 : tt 90 = some ⟨.struct (fl 90), 2, 16, .agg #[.int .i64 0, .int .i64 0], true⟩ := by kernel_rfl
theorem fll90 : (fl 90).toList = [fd 90 0, fd 90 1] := by kernel_rfl
theorem fl90_0 : (fl 90)[0]? = some (fd 90 0) := by kernel_rfl
theorem fdt90_0 : (fd 90 0).type = 3 := by kernel_rfl
theorem fdo90_0 : (fd 90 0).offset = 0 := by kernel_rfl
theorem fl90_1 : (fl 90)[1]? = some (fd 90 1) := by kernel_rfl
theorem fdt90_1 : (fd 90 1).type = 3 := by kernel_rfl
theorem fdo90_1 : (fd 90 1).offset = 1 := by kernel_rfl
theorem tt91 : tt 91 = some ⟨.func #[38, 92] #[3] false, 1, 8, .nilFunc, false⟩ := by kernel_rfl
theorem tt92 : tt 92 = some ⟨.func #[51] #[4] false, 1, 8, .nilFunc, false⟩ := by kernel_rfl
theorem tt93 : tt 93 = some ⟨.func #[26, 85] #[3] false, 1, 8, .nilFunc, false⟩ := by kernel_rfl
theorem tt94 : tt 94 = some ⟨.func #[24, 84] #[3] false, 1, 8, .nilFunc, false⟩ := by kernel_rfl
theorem tt95 : tt 95 = some ⟨.func #[75] #[4] false, 1, 8, .nilFunc, false⟩ := by kernel_rfl
theorem tt96 : tt 96 = some ⟨.func #[75, 24] #[24] false, 1, 8, .nilFunc, false⟩ := by kernel_rfl
theorem tt97 : tt 97 = some ⟨.func #[24] #[9] false, 1, 8, .nilFunc, false⟩ := by kernel_rfl
theorem tt99 : tt 99 = some ⟨.func #[75, 24, 3] #[24] false, 1, 8, .nilFunc, false⟩ := by kernel_rfl
theorem tt101 : tt 101 = some ⟨.func #[75, 24] #[4] false, 1, 8, .nilFunc, false⟩ := by kernel_rfl
theorem tt102 : tt 102 = some ⟨.func #[28] #[24] false, 1, 8, .nilFunc, false⟩ := by kernel_rfl
theorem tt104 : tt 104 = some ⟨.func #[25] #[25] false, 1, 8, .nilFunc, false⟩ := by kernel_rfl
theorem tt105 : tt 105 = some ⟨.func #[73, 108] #[4] false, 1, 8, .nilFunc, false⟩ := by kernel_rfl
theorem tt106 : tt 106 = some ⟨.func #[88, 107] #[4] false, 1, 8, .nilFunc, false⟩ := by kernel_rfl
theorem tt107 : tt 107 = some ⟨.func #[90] #[4] false, 1, 8, .nilFunc, false⟩ := by kernel_rfl
theorem tt108 : tt 108 = some ⟨.func #[88] #[4] false, 1, 8, .nilFunc, false⟩ := by kernel_rfl
theorem tt109 : tt 109 = some ⟨.func #[24] #[] false, 1, 8, .nilFunc, false⟩ := by kernel_rfl
theorem tt110 : tt 110 = some ⟨.slice 5, 1, 24, .slice none 0 0, false⟩ := by kernel_rfl
theorem tt111 : tt 111 = some ⟨.func #[28] #[25] false, 1, 8, .nilFunc, false⟩ := by kernel_rfl
theorem tt112 : tt 112 = some ⟨.func #[28, 24, 25, 3] #[9] false, 1, 8, .nilFunc, false⟩ := by kernel_rfl
theorem tt113 : tt 113 = some ⟨.func #[73, 108] #[3] false, 1, 8, .nilFunc, false⟩ := by kernel_rfl
theorem tt114 : tt 114 = some ⟨.func #[88, 107] #[3] false, 1, 8, .nilFunc, false⟩ := by kernel_rfl
theorem tt115 : tt 115 = some ⟨.func #[24, 3, 3, 3] #[] false, 1, 8, .nilFunc, false⟩ := by kernel_rfl
theorem tt116 : tt 116 = some ⟨.func #[32] #[3] false, 1, 8, .nilFunc, false⟩ := by kernel_rfl
theorem tt117 : tt 117 = some ⟨.func #[24, 3, 3] #[] false, 1, 8, .nilFunc, false⟩ := by kernel_rfl
theorem tt118 : tt 118 = some ⟨.int .i64, 1, 8, .int .i64 0, false⟩ := by kernel_rfl
theorem tt120 : tt 120 = some ⟨.func #[24, 3, 3] #[3, 118] false, 1, 8, .nilFunc, false⟩ := by kernel_rfl
theorem tt121 : tt 121 = some ⟨.func #[24, 3, 3] #[4] false, 1, 8, .nilFunc, false⟩ := by kernel_rfl
theorem tt122 : tt 122 = some ⟨.func #[3, 3] #[4] false, 1, 8, .nilFunc, false⟩ := by kernel_rfl
theorem tt123 : tt 123 = some ⟨.func #[24, 3, 3, 3] #[3] false, 1, 8, .nilFunc, false⟩ := by kernel_rfl
theorem tt124 : tt 124 = some ⟨.func #[24, 3, 3, 3] #[3, 4] false, 1, 8, .nilFunc, false⟩ := by kernel_rfl
theorem tt125 : tt 125 = some ⟨.func #[126] #[3] false, 1, 8, .nilFunc, false⟩ := by kernel_rfl
theorem tt126 : tt 126 = some ⟨.int .u32, 1, 4, .int .u32 0, false⟩ := by kernel_rfl
theorem tt127 : tt 127 = some ⟨.func #[128] #[3] false, 1, 8, .nilFunc, false⟩ := by kernel_rfl
theorem tt128 : tt 128 = some ⟨.int .u64, 1, 8, .int .u64 0, false⟩ := by kernel_rfl
theorem tt129 : tt 129 = some ⟨.int .u64, 1, 8, .int .u64 0, false⟩ := by kernel_rfl
theorem tt130 : tt 130 = some ⟨.func #[3] #[32] false, 1, 8, .nilFunc, false⟩ := by kernel_rfl
theorem tt131 : tt 131 = some ⟨.func #[] #[128] false, 1, 8, .nilFunc, false⟩ := by kernel_rfl
theorem tt132 : tt 132 = some ⟨.func #[24, 3, 133] #[3] false, 1, 8, .nilFunc, false⟩ := by kernel_rfl
theorem tt133 : tt 133 = some ⟨.pointer 3, 1, 8, .pointer none, false⟩ := by kernel_rfl
theorem tt134 : tt 134 = some ⟨.func #[24, 3, 3, 3, 133] #[3] false, 1, 8, .nilFunc, false⟩ := by kernel_rfl
theorem tt135 : tt 135 = some ⟨.pointer 129, 1, 8, .pointer none, false⟩ := by kernel_rfl
theorem tt137 : tt 137 = some ⟨.func #[24, 3, 3, 133] #[3, 3] false, 1, 8, .nilFunc, false⟩ := by kernel_rfl
theorem tt138 : tt 138 = some ⟨.func #[] #[9] false, 1, 8, .nilFunc, false⟩ := by kernel_rfl
theorem tt139 : tt 139 = some ⟨.struct (fl 139), 4, 40, .agg #[.pointer none, .pointer none, .pointer none, .string ByteArray.empty], false⟩ := by kernel_rfl
theorem zc139 : (Value.agg #[.pointer none, .pointer none, .pointer none, .string ByteArray.empty]).cells.toList = [.pointer none, .pointer none, .pointer none, .string ByteArray.empty] := by kernel_rfl
theorem fll139 : (fl 139).toList = [fd 139 0, fd 139 1, fd 139 2, fd 139 3] := by kernel_rfl
theorem fl139_0 : (fl 139)[0]? = some (fd 139 0) := by kernel_rfl
theorem fdt139_0 : (fd 139 0).type = 17 := by kernel_rfl
theorem fdo139_0 : (fd 139 0).offset = 0 := by kernel_rfl
theorem fl139_1 : (fl 139)[1]? = some (fd 139 1) := by kernel_rfl
theorem fdt139_1 : (fd 139 1).type = 17 := by kernel_rfl
theorem fdo139_1 : (fd 139 1).offset = 1 := by kernel_rfl
theorem fl139_2 : (fl 139)[2]? = some (fd 139 2) := by kernel_rfl
theorem fdt139_2 : (fd 139 2).type = 17 := by kernel_rfl
theorem fdo139_2 : (fd 139 2).offset = 2 := by kernel_rfl
theorem fl139_3 : (fl 139)[3]? = some (fd 139 3) := by kernel_rfl
theorem fdt139_3 : (fd 139 3).type = 9 := by kernel_rfl
theorem fdo139_3 : (fd 139 3).offset = 3 := by kernel_rfl
theorem tt140 : tt 140 = some ⟨.struct (fl 140), 4, 40, .agg #[.pointer none, .pointer none, .pointer none, .string ByteArray.empty], false⟩ := by kernel_rfl
theorem fll140 : (fl 140).toList = [fd 140 0, fd 140 1, fd 140 2, fd 140 3] := by kernel_rfl
theorem fl140_0 : (fl 140)[0]? = some (fd 140 0) := by kernel_rfl
theorem fdt140_0 : (fd 140 0).type = 17 := by kernel_rfl
theorem fdo140_0 : (fd 140 0).offset = 0 := by kernel_rfl
theorem fl140_1 : (fl 140)[1]? = some (fd 140 1) := by kernel_rfl
theorem fdt140_1 : (fd 140 1).type = 17 := by kernel_rfl
theorem fdo140_1 : (fd 140 1).offset = 1 := by kernel_rfl
theorem fl140_2 : (fl 140)[2]? = some (fd 140 2) := by kernel_rfl
theorem fdt140_2 : (fd 140 2).type = 17 := by kernel_rfl
theorem fdo140_2 : (fd 140 2).offset = 2 := by kernel_rfl
theorem fl140_3 : (fl 140)[3]? = some (fd 140 3) := by kernel_rfl
theorem fdt140_3 : (fd 140 3).type = 9 := by kernel_rfl
theorem fdo140_3 : (fd 140 3).offset = 3 := by kernel_rfl
theorem tt144 : tt 144 = some ⟨.func #[] #[3] false, 1, 8, .nilFunc, false⟩ := by kernel_rfl
theorem tt145 : tt 145 = some ⟨.int .u8, 1, 1, .int .u8 0, false⟩ := by kernel_rfl
theorem tt146 : tt 146 = some ⟨.int .u8, 1, 1, .int .u8 0, false⟩ := by kernel_rfl
theorem tt147 : tt 147 = some ⟨.func #[153, 153] #[4] false, 1, 8, .nilFunc, false⟩ := by kernel_rfl
theorem tt148 : tt 148 = some ⟨.pointer 5, 1, 8, .pointer none, false⟩ := by kernel_rfl
theorem tt149 : tt 149 = some ⟨.int .i32, 1, 4, .int .i32 0, false⟩ := by kernel_rfl
theorem tt150 : tt 150 = some ⟨.int .i32, 1, 4, .int .i32 0, false⟩ := by kernel_rfl
theorem tt151 : tt 151 = some ⟨.struct (fl 151), 11, 48, .agg #[.int .u64 0, .int .u64 0, .int .u32 0, .int .u8 0, .int .u8 0, .int .u8 0, .int .u8 0, .nilFunc, .pointer none, .int .i32 0, .int .i32 0], false⟩ := by kernel_rfl
theorem zc151 : (Value.agg #[.int .u64 0, .int .u64 0, .int .u32 0, .int .u8 0, .int .u8 0, .int .u8 0, .int .u8 0, .nilFunc, .pointer none, .int .i32 0, .int .i32 0]).cells.toList = [.int .u64 0, .int .u64 0, .int .u32 0, .int .u8 0, .int .u8 0, .int .u8 0, .int .u8 0, .nilFunc, .pointer none, .int .i32 0, .int .i32 0] := by kernel_rfl
theorem fll151 : (fl 151).toList = [fd 151 0, fd 151 1, fd 151 2, fd 151 3, fd 151 4, fd 151 5, fd 151 6, fd 151 7, fd 151 8, fd 151 9, fd 151 10] := by kernel_rfl
theorem fl151_0 : (fl 151)[0]? = some (fd 151 0) := by kernel_rfl
theorem fdt151_0 : (fd 151 0).type = 12 := by kernel_rfl
theorem fdo151_0 : (fd 151 0).offset = 0 := by kernel_rfl
theorem fl151_1 : (fl 151)[1]? = some (fd 151 1) := by kernel_rfl
theorem fdt151_1 : (fd 151 1).type = 12 := by kernel_rfl
theorem fdo151_1 : (fd 151 1).offset = 1 := by kernel_rfl
theorem fl151_2 : (fl 151)[2]? = some (fd 151 2) := by kernel_rfl
theorem fdt151_2 : (fd 151 2).type = 126 := by kernel_rfl
theorem fdo151_2 : (fd 151 2).offset = 2 := by kernel_rfl
theorem fl151_3 : (fl 151)[3]? = some (fd 151 3) := by kernel_rfl
theorem fdt151_3 : (fd 151 3).type = 145 := by kernel_rfl
theorem fdo151_3 : (fd 151 3).offset = 3 := by kernel_rfl
theorem fl151_4 : (fl 151)[4]? = some (fd 151 4) := by kernel_rfl
theorem fdt151_4 : (fd 151 4).type = 5 := by kernel_rfl
theorem fdo151_4 : (fd 151 4).offset = 4 := by kernel_rfl
theorem fl151_5 : (fl 151)[5]? = some (fd 151 5) := by kernel_rfl
theorem fdt151_5 : (fd 151 5).type = 5 := by kernel_rfl
theorem fdo151_5 : (fd 151 5).offset = 5 := by kernel_rfl
theorem fl151_6 : (fl 151)[6]? = some (fd 151 6) := by kernel_rfl
theorem fdt151_6 : (fd 151 6).type = 146 := by kernel_rfl
theorem fdo151_6 : (fd 151 6).offset = 6 := by kernel_rfl
theorem fl151_7 : (fl 151)[7]? = some (fd 151 7) := by kernel_rfl
theorem fdt151_7 : (fd 151 7).type = 147 := by kernel_rfl
theorem fdo151_7 : (fd 151 7).offset = 7 := by kernel_rfl
theorem fl151_8 : (fl 151)[8]? = some (fd 151 8) := by kernel_rfl
theorem fdt151_8 : (fd 151 8).type = 148 := by kernel_rfl
theorem fdo151_8 : (fd 151 8).offset = 8 := by kernel_rfl
theorem fl151_9 : (fl 151)[9]? = some (fd 151 9) := by kernel_rfl
theorem fdt151_9 : (fd 151 9).type = 149 := by kernel_rfl
theorem fdo151_9 : (fd 151 9).offset = 9 := by kernel_rfl
theorem fl151_10 : (fl 151)[10]? = some (fd 151 10) := by kernel_rfl
theorem fdt151_10 : (fd 151 10).type = 150 := by kernel_rfl
theorem fdo151_10 : (fd 151 10).offset = 10 := by kernel_rfl
theorem tt152 : tt 152 = some ⟨.struct (fl 152), 11, 48, .agg #[.int .u64 0, .int .u64 0, .int .u32 0, .int .u8 0, .int .u8 0, .int .u8 0, .int .u8 0, .nilFunc, .pointer none, .int .i32 0, .int .i32 0], false⟩ := by kernel_rfl
theorem fll152 : (fl 152).toList = [fd 152 0, fd 152 1, fd 152 2, fd 152 3, fd 152 4, fd 152 5, fd 152 6, fd 152 7, fd 152 8, fd 152 9, fd 152 10] := by kernel_rfl
theorem fl152_0 : (fl 152)[0]? = some (fd 152 0) := by kernel_rfl
theorem fdt152_0 : (fd 152 0).type = 12 := by kernel_rfl
theorem fdo152_0 : (fd 152 0).offset = 0 := by kernel_rfl
theorem fl152_1 : (fl 152)[1]? = some (fd 152 1) := by kernel_rfl
theorem fdt152_1 : (fd 152 1).type = 12 := by kernel_rfl
theorem fdo152_1 : (fd 152 1).offset = 1 := by kernel_rfl
theorem fl152_2 : (fl 152)[2]? = some (fd 152 2) := by kernel_rfl
theorem fdt152_2 : (fd 152 2).type = 126 := by kernel_rfl
theorem fdo152_2 : (fd 152 2).offset = 2 := by kernel_rfl
theorem fl152_3 : (fl 152)[3]? = some (fd 152 3) := by kernel_rfl
theorem fdt152_3 : (fd 152 3).type = 145 := by kernel_rfl
theorem fdo152_3 : (fd 152 3).offset = 3 := by kernel_rfl
theorem fl152_4 : (fl 152)[4]? = some (fd 152 4) := by kernel_rfl
theorem fdt152_4 : (fd 152 4).type = 5 := by kernel_rfl
theorem fdo152_4 : (fd 152 4).offset = 4 := by kernel_rfl
theorem fl152_5 : (fl 152)[5]? = some (fd 152 5) := by kernel_rfl
theorem fdt152_5 : (fd 152 5).type = 5 := by kernel_rfl
theorem fdo152_5 : (fd 152 5).offset = 5 := by kernel_rfl
theorem fl152_6 : (fl 152)[6]? = some (fd 152 6) := by kernel_rfl
theorem fdt152_6 : (fd 152 6).type = 146 := by kernel_rfl
theorem fdo152_6 : (fd 152 6).offset = 6 := by kernel_rfl
theorem fl152_7 : (fl 152)[7]? = some (fd 152 7) := by kernel_rfl
theorem fdt152_7 : (fd 152 7).type = 147 := by kernel_rfl
theorem fdo152_7 : (fd 152 7).offset = 7 := by kernel_rfl
theorem fl152_8 : (fl 152)[8]? = some (fd 152 8) := by kernel_rfl
theorem fdt152_8 : (fd 152 8).type = 148 := by kernel_rfl
theorem fdo152_8 : (fd 152 8).offset = 8 := by kernel_rfl
theorem fl152_9 : (fl 152)[9]? = some (fd 152 9) := by kernel_rfl
theorem fdt152_9 : (fd 152 9).type = 149 := by kernel_rfl
theorem fdo152_9 : (fd 152 9).offset = 9 := by kernel_rfl
theorem fl152_10 : (fl 152)[10]? = some (fd 152 10) := by kernel_rfl
theorem fdt152_10 : (fd 152 10).type = 150 := by kernel_rfl
theorem fdo152_10 : (fd 152 10).offset = 10 := by kernel_rfl
theorem fnok5 : FnOk Try.prog 5 := ⟨_, Try.func5, by kernel_rfl, by kernel_rfl⟩
theorem fnok6 : FnOk Try.prog 6 := ⟨_, Try.func6, by kernel_rfl, by kernel_rfl⟩
theorem fnok7 : FnOk Try.prog 7 := ⟨_, Try.func7, by kernel_rfl, by kernel_rfl⟩
theorem fnok8 : FnOk Try.prog 8 := ⟨_, Try.func8, by kernel_rfl, by kernel_rfl⟩
theorem fnok9 : FnOk Try.prog 9 := ⟨_, Try.func9, by kernel_rfl, by kernel_rfl⟩
theorem fnok10 : FnOk Try.prog 10 := ⟨_, Try.func10, by kernel_rfl, by kernel_rfl⟩
theorem fnok11 : FnOk Try.prog 11 := ⟨_, Try.func11, by kernel_rfl, by kernel_rfl⟩
theorem fnok12 : FnOk Try.prog 12 := ⟨_, Try.func12, by kernel_rfl, by kernel_rfl⟩
theorem fnok13 : FnOk Try.prog 13 := ⟨_, Try.func13, by kernel_rfl, by kernel_rfl⟩
theorem fnok14 : FnOk Try.prog 14 := ⟨_, Try.func14, by kernel_rfl, by kernel_rfl⟩
theorem fnok15 : FnOk Try.prog 15 := ⟨_, Try.func15, by kernel_rfl, by kernel_rfl⟩
theorem fnok16 : FnOk Try.prog 16 := ⟨_, Try.func16, by kernel_rfl, by kernel_rfl⟩
theorem fnok17 : FnOk Try.prog 17 := ⟨_, Try.func17, by kernel_rfl, by kernel_rfl⟩
theorem fnok18 : FnOk Try.prog 18 := ⟨_, Try.func18, by kernel_rfl, by kernel_rfl⟩
theorem fnok19 : FnOk Try.prog 19 := ⟨_, Try.func19, by kernel_rfl, by kernel_rfl⟩
theorem fnok20 : FnOk Try.prog 20 := ⟨_, Try.func20, by kernel_rfl, by kernel_rfl⟩
theorem fnok21 : FnOk Try.prog 21 := ⟨_, Try.func21, by kernel_rfl, by kernel_rfl⟩
theorem fnok22 : FnOk Try.prog 22 := ⟨_, Try.func22, by kernel_rfl, by kernel_rfl⟩
theorem fnok23 : FnOk Try.prog 23 := ⟨_, Try.func23, by kernel_rfl, by kernel_rfl⟩
theorem fnok24 : FnOk Try.prog 24 := ⟨_, Try.func24, by kernel_rfl, by kernel_rfl⟩
theorem fnok25 : FnOk Try.prog 25 := ⟨_, Try.func25, by kernel_rfl, by kernel_rfl⟩
theorem fnok26 : FnOk Try.prog 26 := ⟨_, Try.func26, by kernel_rfl, by kernel_rfl⟩
theorem fnok27 : FnOk Try.prog 27 := ⟨_, Try.func27, by kernel_rfl, by kernel_rfl⟩
theorem fnok28 : FnOk Try.prog 28 := ⟨_, Try.func28, by kernel_rfl, by kernel_rfl⟩
theorem fnok29 : FnOk Try.prog 29 := ⟨_, Try.func29, by kernel_rfl, by kernel_rfl⟩
theorem fnok30 : FnOk Try.prog 30 := ⟨_, Try.func30, by kernel_rfl, by kernel_rfl⟩
theorem fnok31 : FnOk Try.prog 31 := ⟨_, Try.func31, by kernel_rfl, by kernel_rfl⟩
theorem fnok32 : FnOk Try.prog 32 := ⟨_, Try.func32, by kernel_rfl, by kernel_rfl⟩
theorem fnok33 : FnOk Try.prog 33 := ⟨_, Try.func33, by kernel_rfl, by kernel_rfl⟩
theorem fnok34 : FnOk Try.prog 34 := ⟨_, Try.func34, by kernel_rfl, by kernel_rfl⟩
theorem fnok35 : FnOk Try.prog 35 := ⟨_, Try.func35, by kernel_rfl, by kernel_rfl⟩
theorem fnok36 : FnOk Try.prog 36 := ⟨_, Try.func36, by kernel_rfl, by kernel_rfl⟩
theorem fnok37 : FnOk Try.prog 37 := ⟨_, Try.func37, by kernel_rfl, by kernel_rfl⟩
theorem fnok38 : FnOk Try.prog 38 := ⟨_, Try.func38, by kernel_rfl, by kernel_rfl⟩
theorem fnok39 : FnOk Try.prog 39 := ⟨_, Try.func39, by kernel_rfl, by kernel_rfl⟩
theorem fnok40 : FnOk Try.prog 40 := ⟨_, Try.func40, by kernel_rfl, by kernel_rfl⟩
theorem fnok41 : FnOk Try.prog 41 := ⟨_, Try.func41, by kernel_rfl, by kernel_rfl⟩
theorem fnok42 : FnOk Try.prog 42 := ⟨_, Try.func42, by kernel_rfl, by kernel_rfl⟩
theorem fnok43 : FnOk Try.prog 43 := ⟨_, Try.func43, by kernel_rfl, by kernel_rfl⟩
theorem fnok44 : FnOk Try.prog 44 := ⟨_, Try.func44, by kernel_rfl, by kernel_rfl⟩
theorem fnok45 : FnOk Try.prog 45 := ⟨_, Try.func45, by kernel_rfl, by kernel_rfl⟩
theorem fnok46 : FnOk Try.prog 46 := ⟨_, Try.func46, by kernel_rfl, by kernel_rfl⟩
theorem fnok47 : FnOk Try.prog 47 := ⟨_, Try.func47, by kernel_rfl, by kernel_rfl⟩
theorem fnok48 : FnOk Try.prog 48 := ⟨_, Try.func48, by kernel_rfl, by kernel_rfl⟩
theorem fnok49 : FnOk Try.prog 49 := ⟨_, Try.func49, by kernel_rfl, by kernel_rfl⟩
theorem fnok50 : FnOk Try.prog 50 := ⟨_, Try.func50, by kernel_rfl, by kernel_rfl⟩
theorem fnok51 : FnOk Try.prog 51 := ⟨_, Try.func51, by kernel_rfl, by kernel_rfl⟩
theorem fnok52 : FnOk Try.prog 52 := ⟨_, Try.func52, by kernel_rfl, by kernel_rfl⟩
theorem fnok53 : FnOk Try.prog 53 := ⟨_, Try.func53, by kernel_rfl, by kernel_rfl⟩
theorem fnok54 : FnOk Try.prog 54 := ⟨_, Try.func54, by kernel_rfl, by kernel_rfl⟩
theorem fnok55 : FnOk Try.prog 55 := ⟨_, Try.func55, by kernel_rfl, by kernel_rfl⟩
theorem fnok56 : FnOk Try.prog 56 := ⟨_, Try.func56, by kernel_rfl, by kernel_rfl⟩
theorem fnok57 : FnOk Try.prog 57 := ⟨_, Try.func57, by kernel_rfl, by kernel_rfl⟩
theorem fnok58 : FnOk Try.prog 58 := ⟨_, Try.func58, by kernel_rfl, by kernel_rfl⟩
theorem fnok61 : FnOk Try.prog 61 := ⟨_, Try.func61, by kernel_rfl, by kernel_rfl⟩
theorem tyA0 : (tt 1 = some ⟨.func #[] #[] false, 1, 8, .nilFunc, false⟩) ∧ (tt 2 = some ⟨.int .i64, 1, 8, .int .i64 0, false⟩) ∧ (tt 3 = some ⟨.int .i64, 1, 8, .int .i64 0, false⟩) ∧ (tt 4 = some ⟨.bool, 1, 1, .bool false, false⟩) ∧ (tt 5 = some ⟨.int .u8, 1, 1, .int .u8 0, false⟩) ∧ (tt 6 = some ⟨.int .u8, 1, 1, .int .u8 0, false⟩) ∧ (tt 7 = some ⟨.struct (fl 7), 4, 24, .agg #[.int .i64 0, .int .i64 0, .bool false, .int .u8 0], false⟩) ∧ ((Value.agg #[.int .i64 0, .int .i64 0, .bool false, .int .u8 0]).cells.toList = [.int .i64 0, .int .i64 0, .bool false, .int .u8 0]) ∧ ((fl 7).toList = [fd 7 0, fd 7 1, fd 7 2, fd 7 3]) ∧ ((fl 7)[0]? = some (fd 7 0)) ∧ ((fd 7 0).type = 2) ∧ ((fd 7 0).offset = 0) ∧ ((fl 7)[1]? = some (fd 7 1)) ∧ ((fd 7 1).type = 3) ∧ ((fd 7 1).offset = 1) ∧ ((fl 7)[2]? = some (fd 7 2)) ∧ ((fd 7 2).type = 4) ∧ ((fd 7 2).offset = 2) ∧ ((fl 7)[3]? = some (fd 7 3)) ∧ ((fd 7 3).type = 6) ∧ ((fd 7 3).offset = 3) ∧ (tt 8 = some ⟨.struct (fl 8), 4, 24, .agg #[.int .i64 0, .int .i64 0, .bool false, .int .u8 0], false⟩) ∧ ((fl 8).toList = [fd 8 0, fd 8 1, fd 8 2, fd 8 3]) ∧ ((fl 8)[0]? = some (fd 8 0)) ∧ ((fd 8 0).type = 2) ∧ ((fd 8 0).offset = 0) ∧ ((fl 8)[1]? = some (fd 8 1)) ∧ ((fd 8 1).type = 3) ∧ ((fd 8 1).offset = 1) ∧ ((fl 8)[2]? = some (fd 8 2)) ∧ ((fd 8 2).type = 4) ∧ ((fd 8 2).offset = 2) ∧ ((fl 8)[3]? = some (fd 8 3)) ∧ ((fd 8 3).type = 6) ∧ ((fd 8 3).offset = 3) ∧ (tt 9 = some ⟨.string, 1, 16, .string ByteArray.empty, false⟩) ∧ (tt 10 = some ⟨.string, 1, 16, .string ByteArray.empty, false⟩) ∧ (tt 11 = some ⟨.string, 1, 16, .string ByteArray.empty, false⟩) ∧ (tt 12 = some ⟨.int .u64, 1, 8, .int .u64 0, false⟩) ∧ (tt 13 = some ⟨.struct (fl 13), 2, 24, .agg #[.string ByteArray.empty, .int .u64 0], false⟩) := ⟨tt1, tt2, tt3, tt4, tt5, tt6, tt7, zc7, fll7, fl7_0, fdt7_0, fdo7_0, fl7_1, fdt7_1, fdo7_1, fl7_2, fdt7_2, fdo7_2, fl7_3, fdt7_3, fdo7_3, tt8, fll8, fl8_0, fdt8_0, fdo8_0, fl8_1, fdt8_1, fdo8_1, fl8_2, fdt8_2, fdo8_2, fl8_3, fdt8_3, fdo8_3, tt9, tt10, tt11, tt12, tt13⟩
theorem tyA1 : ((Value.agg #[.string ByteArray.empty, .int .u64 0]).cells.toList = [.string ByteArray.empty, .int .u64 0]) ∧ ((fl 13).toList = [fd 13 0, fd 13 1]) ∧ ((fl 13)[0]? = some (fd 13 0)) ∧ ((fd 13 0).type = 9) ∧ ((fd 13 0).offset = 0) ∧ ((fl 13)[1]? = some (fd 13 1)) ∧ ((fd 13 1).type = 12) ∧ ((fd 13 1).offset = 1) ∧ (tt 14 = some ⟨.struct (fl 14), 2, 24, .agg #[.string ByteArray.empty, .int .u64 0], false⟩) ∧ ((fl 14).toList = [fd 14 0, fd 14 1]) ∧ ((fl 14)[0]? = some (fd 14 0)) ∧ ((fd 14 0).type = 9) ∧ ((fd 14 0).offset = 0) ∧ ((fl 14)[1]? = some (fd 14 1)) ∧ ((fd 14 1).type = 12) ∧ ((fd 14 1).offset = 1) ∧ (tt 15 = some ⟨.pointer 140, 1, 8, .pointer none, false⟩) ∧ (tt 16 = some ⟨.pointer 143, 1, 8, .pointer none, false⟩) ∧ (tt 17 = some ⟨.pointer 152, 1, 8, .pointer none, false⟩) ∧ (tt 18 = some ⟨.struct (fl 18), 1, 8, .agg #[.pointer none], false⟩) ∧ ((Value.agg #[.pointer none]).cells.toList = [.pointer none]) ∧ ((fl 18).toList = [fd 18 0]) ∧ ((fl 18)[0]? = some (fd 18 0)) ∧ ((fd 18 0).type = 17) ∧ ((fd 18 0).offset = 0) ∧ (tt 19 = some ⟨.struct (fl 19), 1, 8, .agg #[.pointer none], false⟩) ∧ ((fl 19).toList = [fd 19 0]) ∧ ((fl 19)[0]? = some (fd 19 0)) ∧ ((fd 19 0).type = 17) ∧ ((fd 19 0).offset = 0) ∧ (tt 21 = some ⟨.int .i32, 1, 4, .int .i32 0, false⟩) ∧ (tt 22 = some ⟨.slice 23, 1, 24, .slice none 0 0, false⟩) ∧ (tt 23 = some ⟨.array 3 3, 3, 24, .agg #[.int .i64 0, .int .i64 0, .int .i64 0], false⟩) ∧ ((Value.agg #[.int .i64 0, .int .i64 0, .int .i64 0]).cells.toList = [.int .i64 0, .int .i64 0, .int .i64 0]) ∧ (tt 24 = some ⟨.slice 3, 1, 24, .slice none 0 0, false⟩) ∧ (tt 25 = some ⟨.slice 4, 1, 24, .slice none 0 0, false⟩) ∧ (tt 26 = some ⟨.slice 24, 1, 24, .slice none 0 0, false⟩) ∧ (tt 27 = some ⟨.struct (fl 27), 4, 64, .agg #[.int .i64 0, .int .i64 0, .slice none 0 0, .slice none 0 0], false⟩) ∧ ((Value.agg #[.int .i64 0, .int .i64 0, .slice none 0 0, .slice none 0 0]).cells.toList = [.int .i64 0, .int .i64 0, .slice none 0 0, .slice none 0 0]) ∧ ((fl 27).toList = [fd 27 0, fd 27 1, fd 27 2, fd 27 3]) := ⟨zc13, fll13, fl13_0, fdt13_0, fdo13_0, fl13_1, fdt13_1, fdo13_1, tt14, fll14, fl14_0, fdt14_0, fdo14_0, fl14_1, fdt14_1, fdo14_1, tt15, tt16, tt17, tt18, zc18, fll18, fl18_0, fdt18_0, fdo18_0, tt19, fll19, fl19_0, fdt19_0, fdo19_0, tt21, tt22, tt23, zc23, tt24, tt25, tt26, tt27, zc27, fll27⟩
theorem tyA2 : ((fl 27)[0]? = some (fd 27 0)) ∧ ((fd 27 0).type = 3) ∧ ((fd 27 0).offset = 0) ∧ ((fl 27)[1]? = some (fd 27 1)) ∧ ((fd 27 1).type = 3) ∧ ((fd 27 1).offset = 1) ∧ ((fl 27)[2]? = some (fd 27 2)) ∧ ((fd 27 2).type = 25) ∧ ((fd 27 2).offset = 2) ∧ ((fl 27)[3]? = some (fd 27 3)) ∧ ((fd 27 3).type = 26) ∧ ((fd 27 3).offset = 3) ∧ (tt 28 = some ⟨.struct (fl 28), 4, 64, .agg #[.int .i64 0, .int .i64 0, .slice none 0 0, .slice none 0 0], false⟩) ∧ ((fl 28).toList = [fd 28 0, fd 28 1, fd 28 2, fd 28 3]) ∧ ((fl 28)[0]? = some (fd 28 0)) ∧ ((fd 28 0).type = 3) ∧ ((fd 28 0).offset = 0) ∧ ((fl 28)[1]? = some (fd 28 1)) ∧ ((fd 28 1).type = 3) ∧ ((fd 28 1).offset = 1) ∧ ((fl 28)[2]? = some (fd 28 2)) ∧ ((fd 28 2).type = 25) ∧ ((fd 28 2).offset = 2) ∧ ((fl 28)[3]? = some (fd 28 3)) ∧ ((fd 28 3).type = 26) ∧ ((fd 28 3).offset = 3) ∧ (tt 29 = some ⟨.slice 53, 1, 24, .slice none 0 0, false⟩) ∧ (tt 31 = some ⟨.func #[22, 3, 33] #[28, 29] false, 1, 8, .nilFunc, false⟩) ∧ (tt 32 = some ⟨.int .u64, 1, 8, .int .u64 0, false⟩) ∧ (tt 33 = some ⟨.array 2 3, 2, 16, .agg #[.int .i64 0, .int .i64 0], false⟩) ∧ ((Value.agg #[.int .i64 0, .int .i64 0]).cells.toList = [.int .i64 0, .int .i64 0]) ∧ (tt 34 = some ⟨.slice 40, 1, 24, .slice none 0 0, false⟩) ∧ (tt 36 = some ⟨.func #[28, 29] #[34, 4] false, 1, 8, .nilFunc, false⟩) ∧ (tt 37 = some ⟨.func #[] #[4] false, 1, 8, .nilFunc, false⟩) ∧ (tt 38 = some ⟨.slice 51, 1, 24, .slice none 0 0, false⟩) ∧ (tt 39 = some ⟨.struct (fl 39), 6, 96, .agg #[.int .i64 0, .slice none 0 0, .int .i64 0, .int .i64 0, .slice none 0 0, .slice none 0 0], false⟩) ∧ ((Value.agg #[.int .i64 0, .slice none 0 0, .int .i64 0, .int .i64 0, .slice none 0 0, .slice none 0 0]).cells.toList = [.int .i64 0, .slice none 0 0, .int .i64 0, .int .i64 0, .slice none 0 0, .slice none 0 0]) ∧ ((fl 39).toList = [fd 39 0, fd 39 1, fd 39 2]) ∧ ((fl 39)[0]? = some (fd 39 0)) ∧ ((fd 39 0).type = 3) := ⟨fl27_0, fdt27_0, fdo27_0, fl27_1, fdt27_1, fdo27_1, fl27_2, fdt27_2, fdo27_2, fl27_3, fdt27_3, fdo27_3, tt28, fll28, fl28_0, fdt28_0, fdo28_0, fl28_1, fdt28_1, fdo28_1, fl28_2, fdt28_2, fdo28_2, fl28_3, fdt28_3, fdo28_3, tt29, tt31, tt32, tt33, zc33, tt34, tt36, tt37, tt38, tt39, zc39, fll39, fl39_0, fdt39_0⟩
theorem tyA3 : ((fd 39 0).offset = 0) ∧ ((fl 39)[1]? = some (fd 39 1)) ∧ ((fd 39 1).type = 38) ∧ ((fd 39 1).offset = 1) ∧ ((fl 39)[2]? = some (fd 39 2)) ∧ ((fd 39 2).type = 28) ∧ ((fd 39 2).offset = 2) ∧ (tt 40 = some ⟨.struct (fl 40), 6, 96, .agg #[.int .i64 0, .slice none 0 0, .int .i64 0, .int .i64 0, .slice none 0 0, .slice none 0 0], false⟩) ∧ ((fl 40).toList = [fd 40 0, fd 40 1, fd 40 2]) ∧ ((fl 40)[0]? = some (fd 40 0)) ∧ ((fd 40 0).type = 3) ∧ ((fd 40 0).offset = 0) ∧ ((fl 40)[1]? = some (fd 40 1)) ∧ ((fd 40 1).type = 38) ∧ ((fd 40 1).offset = 1) ∧ ((fl 40)[2]? = some (fd 40 2)) ∧ ((fd 40 2).type = 28) ∧ ((fd 40 2).offset = 2) ∧ (tt 41 = some ⟨.slice 55, 1, 24, .slice none 0 0, false⟩) ∧ (tt 42 = some ⟨.struct (fl 42), 4, 64, .agg #[.int .i64 0, .int .i64 0, .slice none 0 0, .slice none 0 0], false⟩) ∧ ((fl 42).toList = [fd 42 0, fd 42 1, fd 42 2, fd 42 3]) ∧ ((fl 42)[0]? = some (fd 42 0)) ∧ ((fd 42 0).type = 3) ∧ ((fd 42 0).offset = 0) ∧ ((fl 42)[1]? = some (fd 42 1)) ∧ ((fd 42 1).type = 3) ∧ ((fd 42 1).offset = 1) ∧ ((fl 42)[2]? = some (fd 42 2)) ∧ ((fd 42 2).type = 41) ∧ ((fd 42 2).offset = 2) ∧ ((fl 42)[3]? = some (fd 42 3)) ∧ ((fd 42 3).type = 24) ∧ ((fd 42 3).offset = 3) ∧ (tt 43 = some ⟨.struct (fl 43), 4, 64, .agg #[.int .i64 0, .int .i64 0, .slice none 0 0, .slice none 0 0], false⟩) ∧ ((fl 43).toList = [fd 43 0, fd 43 1, fd 43 2, fd 43 3]) ∧ ((fl 43)[0]? = some (fd 43 0)) ∧ ((fd 43 0).type = 3) ∧ ((fd 43 0).offset = 0) ∧ ((fl 43)[1]? = some (fd 43 1)) ∧ ((fd 43 1).type = 3) := ⟨fdo39_0, fl39_1, fdt39_1, fdo39_1, fl39_2, fdt39_2, fdo39_2, tt40, fll40, fl40_0, fdt40_0, fdo40_0, fl40_1, fdt40_1, fdo40_1, fl40_2, fdt40_2, fdo40_2, tt41, tt42, fll42, fl42_0, fdt42_0, fdo42_0, fl42_1, fdt42_1, fdo42_1, fl42_2, fdt42_2, fdo42_2, fl42_3, fdt42_3, fdo42_3, tt43, fll43, fl43_0, fdt43_0, fdo43_0, fl43_1, fdt43_1⟩
theorem tyA4 : ((fd 43 1).offset = 1) ∧ ((fl 43)[2]? = some (fd 43 2)) ∧ ((fd 43 2).type = 41) ∧ ((fd 43 2).offset = 2) ∧ ((fl 43)[3]? = some (fd 43 3)) ∧ ((fd 43 3).type = 24) ∧ ((fd 43 3).offset = 3) ∧ (tt 44 = some ⟨.func #[3, 3] #[43] false, 1, 8, .nilFunc, false⟩) ∧ (tt 45 = some ⟨.array 3 24, 3, 72, .agg #[.slice none 0 0, .slice none 0 0, .slice none 0 0], false⟩) ∧ ((Value.agg #[.slice none 0 0, .slice none 0 0, .slice none 0 0]).cells.toList = [.slice none 0 0, .slice none 0 0, .slice none 0 0]) ∧ (tt 46 = some ⟨.slice 58, 1, 24, .slice none 0 0, false⟩) ∧ (tt 48 = some ⟨.func #[40, 29, 43, 3] #[43, 4] false, 1, 8, .nilFunc, false⟩) ∧ (tt 49 = some ⟨.func #[43, 43] #[4] false, 1, 8, .nilFunc, false⟩) ∧ (tt 50 = some ⟨.struct (fl 50), 2, 16, .agg #[.int .i64 0, .int .i64 0], true⟩) ∧ ((fl 50).toList = [fd 50 0, fd 50 1]) ∧ ((fl 50)[0]? = some (fd 50 0)) ∧ ((fd 50 0).type = 3) ∧ ((fd 50 0).offset = 0) ∧ ((fl 50)[1]? = some (fd 50 1)) ∧ ((fd 50 1).type = 3) ∧ ((fd 50 1).offset = 1) ∧ (tt 51 = some ⟨.struct (fl 51), 2, 16, .agg #[.int .i64 0, .int .i64 0], true⟩) ∧ ((fl 51).toList = [fd 51 0, fd 51 1]) ∧ ((fl 51)[0]? = some (fd 51 0)) ∧ ((fd 51 0).type = 3) ∧ ((fd 51 0).offset = 0) ∧ ((fl 51)[1]? = some (fd 51 1)) ∧ ((fd 51 1).type = 3) ∧ ((fd 51 1).offset = 1) ∧ (tt 52 = some ⟨.struct (fl 52), 3, 24, .agg #[.int .i64 0, .int .i64 0, .int .i64 0], true⟩) ∧ ((fl 52).toList = [fd 52 0, fd 52 1, fd 52 2]) ∧ ((fl 52)[0]? = some (fd 52 0)) ∧ ((fd 52 0).type = 3) ∧ ((fd 52 0).offset = 0) ∧ ((fl 52)[1]? = some (fd 52 1)) ∧ ((fd 52 1).type = 3) ∧ ((fd 52 1).offset = 1) ∧ ((fl 52)[2]? = some (fd 52 2)) ∧ ((fd 52 2).type = 3) ∧ ((fd 52 2).offset = 2) := ⟨fdo43_1, fl43_2, fdt43_2, fdo43_2, fl43_3, fdt43_3, fdo43_3, tt44, tt45, zc45, tt46, tt48, tt49, tt50, fll50, fl50_0, fdt50_0, fdo50_0, fl50_1, fdt50_1, fdo50_1, tt51, fll51, fl51_0, fdt51_0, fdo51_0, fl51_1, fdt51_1, fdo51_1, tt52, fll52, fl52_0, fdt52_0, fdo52_0, fl52_1, fdt52_1, fdo52_1, fl52_2, fdt52_2, fdo52_2⟩
theorem tyA5 : (tt 53 = some ⟨.struct (fl 53), 3, 24, .agg #[.int .i64 0, .int .i64 0, .int .i64 0], true⟩) ∧ ((fl 53).toList = [fd 53 0, fd 53 1, fd 53 2]) ∧ ((fl 53)[0]? = some (fd 53 0)) ∧ ((fd 53 0).type = 3) ∧ ((fd 53 0).offset = 0) ∧ ((fl 53)[1]? = some (fd 53 1)) ∧ ((fd 53 1).type = 3) ∧ ((fd 53 1).offset = 1) ∧ ((fl 53)[2]? = some (fd 53 2)) ∧ ((fd 53 2).type = 3) ∧ ((fd 53 2).offset = 2) ∧ (tt 54 = some ⟨.struct (fl 54), 2, 32, .agg #[.int .i64 0, .slice none 0 0], false⟩) ∧ ((Value.agg #[.int .i64 0, .slice none 0 0]).cells.toList = [.int .i64 0, .slice none 0 0]) ∧ ((fl 54).toList = [fd 54 0, fd 54 1]) ∧ ((fl 54)[0]? = some (fd 54 0)) ∧ ((fd 54 0).type = 3) ∧ ((fd 54 0).offset = 0) ∧ ((fl 54)[1]? = some (fd 54 1)) ∧ ((fd 54 1).type = 24) ∧ ((fd 54 1).offset = 1) ∧ (tt 55 = some ⟨.struct (fl 55), 2, 32, .agg #[.int .i64 0, .slice none 0 0], false⟩) ∧ ((fl 55).toList = [fd 55 0, fd 55 1]) ∧ ((fl 55)[0]? = some (fd 55 0)) ∧ ((fd 55 0).type = 3) ∧ ((fd 55 0).offset = 0) ∧ ((fl 55)[1]? = some (fd 55 1)) ∧ ((fd 55 1).type = 24) ∧ ((fd 55 1).offset = 1) ∧ (tt 56 = some ⟨.func #[24, 24] #[4] false, 1, 8, .nilFunc, false⟩) ∧ (tt 57 = some ⟨.struct (fl 57), 3, 24, .agg #[.int .i64 0, .int .i64 0, .int .i64 0], true⟩) ∧ ((fl 57).toList = [fd 57 0, fd 57 1, fd 57 2]) ∧ ((fl 57)[0]? = some (fd 57 0)) ∧ ((fd 57 0).type = 3) ∧ ((fd 57 0).offset = 0) ∧ ((fl 57)[1]? = some (fd 57 1)) ∧ ((fd 57 1).type = 3) ∧ ((fd 57 1).offset = 1) ∧ ((fl 57)[2]? = some (fd 57 2)) ∧ ((fd 57 2).type = 3) ∧ ((fd 57 2).offset = 2) := ⟨tt53, fll53, fl53_0, fdt53_0, fdo53_0, fl53_1, fdt53_1, fdo53_1, fl53_2, fdt53_2, fdo53_2, tt54, zc54, fll54, fl54_0, fdt54_0, fdo54_0, fl54_1, fdt54_1, fdo54_1, tt55, fll55, fl55_0, fdt55_0, fdo55_0, fl55_1, fdt55_1, fdo55_1, tt56, tt57, fll57, fl57_0, fdt57_0, fdo57_0, fl57_1, fdt57_1, fdo57_1, fl57_2, fdt57_2, fdo57_2⟩
theorem tyA6 : (tt 58 = some ⟨.struct (fl 58), 3, 24, .agg #[.int .i64 0, .int .i64 0, .int .i64 0], true⟩) ∧ ((fl 58).toList = [fd 58 0, fd 58 1, fd 58 2]) ∧ ((fl 58)[0]? = some (fd 58 0)) ∧ ((fd 58 0).type = 3) ∧ ((fd 58 0).offset = 0) ∧ ((fl 58)[1]? = some (fd 58 1)) ∧ ((fd 58 1).type = 3) ∧ ((fd 58 1).offset = 1) ∧ ((fl 58)[2]? = some (fd 58 2)) ∧ ((fd 58 2).type = 3) ∧ ((fd 58 2).offset = 2) ∧ (tt 59 = some ⟨.func #[43, 3] #[58] false, 1, 8, .nilFunc, false⟩) ∧ (tt 60 = some ⟨.func #[40, 29, 43, 46] #[43, 4] false, 1, 8, .nilFunc, false⟩) ∧ (tt 61 = some ⟨.func #[22, 23, 24] #[4] false, 1, 8, .nilFunc, false⟩) ∧ (tt 62 = some ⟨.func #[22, 3, 33] #[28] false, 1, 8, .nilFunc, false⟩) ∧ (tt 63 = some ⟨.func #[3] #[29] false, 1, 8, .nilFunc, false⟩) ∧ (tt 64 = some ⟨.int .i64, 1, 8, .int .i64 0, false⟩) ∧ (tt 66 = some ⟨.func #[28, 29, 3] #[28, 38, 64] false, 1, 8, .nilFunc, false⟩) ∧ (tt 67 = some ⟨.func #[28] #[4] false, 1, 8, .nilFunc, false⟩) ∧ (tt 68 = some ⟨.func #[40, 3, 51] #[3] false, 1, 8, .nilFunc, false⟩) ∧ (tt 69 = some ⟨.func #[53, 3] #[3] false, 1, 8, .nilFunc, false⟩) ∧ (tt 70 = some ⟨.func #[43] #[43] false, 1, 8, .nilFunc, false⟩) ∧ (tt 72 = some ⟨.func #[75] #[28, 64] false, 1, 8, .nilFunc, false⟩) ∧ (tt 73 = some ⟨.slice 88, 1, 24, .slice none 0 0, false⟩) ∧ (tt 74 = some ⟨.struct (fl 74), 4, 64, .agg #[.int .i64 0, .int .i64 0, .slice none 0 0, .slice none 0 0], false⟩) ∧ ((fl 74).toList = [fd 74 0, fd 74 1, fd 74 2, fd 74 3]) ∧ ((fl 74)[0]? = some (fd 74 0)) ∧ ((fd 74 0).type = 3) ∧ ((fd 74 0).offset = 0) ∧ ((fl 74)[1]? = some (fd 74 1)) ∧ ((fd 74 1).type = 3) ∧ ((fd 74 1).offset = 1) ∧ ((fl 74)[2]? = some (fd 74 2)) ∧ ((fd 74 2).type = 25) ∧ ((fd 74 2).offset = 2) ∧ ((fl 74)[3]? = some (fd 74 3)) ∧ ((fd 74 3).type = 73) ∧ ((fd 74 3).offset = 3) ∧ (tt 75 = some ⟨.struct (fl 75), 4, 64, .agg #[.int .i64 0, .int .i64 0, .slice none 0 0, .slice none 0 0], false⟩) ∧ ((fl 75).toList = [fd 75 0, fd 75 1, fd 75 2, fd 75 3]) := ⟨tt58, fll58, fl58_0, fdt58_0, fdo58_0, fl58_1, fdt58_1, fdo58_1, fl58_2, fdt58_2, fdo58_2, tt59, tt60, tt61, tt62, tt63, tt64, tt66, tt67, tt68, tt69, tt70, tt72, tt73, tt74, fll74, fl74_0, fdt74_0, fdo74_0, fl74_1, fdt74_1, fdo74_1, fl74_2, fdt74_2, fdo74_2, fl74_3, fdt74_3, fdo74_3, tt75, fll75⟩
theorem tyA7 : ((fl 75)[0]? = some (fd 75 0)) ∧ ((fd 75 0).type = 3) ∧ ((fd 75 0).offset = 0) ∧ ((fl 75)[1]? = some (fd 75 1)) ∧ ((fd 75 1).type = 3) ∧ ((fd 75 1).offset = 1) ∧ ((fl 75)[2]? = some (fd 75 2)) ∧ ((fd 75 2).type = 25) ∧ ((fd 75 2).offset = 2) ∧ ((fl 75)[3]? = some (fd 75 3)) ∧ ((fd 75 3).type = 73) ∧ ((fd 75 3).offset = 3) ∧ (tt 76 = some ⟨.func #[28, 29, 3] #[75] false, 1, 8, .nilFunc, false⟩) ∧ (tt 77 = some ⟨.func #[29, 3] #[38] false, 1, 8, .nilFunc, false⟩) ∧ (tt 78 = some ⟨.func #[28, 3, 3] #[3] false, 1, 8, .nilFunc, false⟩) ∧ (tt 79 = some ⟨.func #[40, 51] #[3] false, 1, 8, .nilFunc, false⟩) ∧ (tt 80 = some ⟨.func #[41] #[41] false, 1, 8, .nilFunc, false⟩) ∧ (tt 81 = some ⟨.func #[24] #[24] false, 1, 8, .nilFunc, false⟩) ∧ (tt 82 = some ⟨.func #[26, 85] #[4] false, 1, 8, .nilFunc, false⟩) ∧ (tt 83 = some ⟨.func #[24, 84] #[4] false, 1, 8, .nilFunc, false⟩) ∧ (tt 84 = some ⟨.func #[3] #[4] false, 1, 8, .nilFunc, false⟩) ∧ (tt 85 = some ⟨.func #[24] #[4] false, 1, 8, .nilFunc, false⟩) ∧ (tt 86 = some ⟨.func #[28] #[28, 64] false, 1, 8, .nilFunc, false⟩) ∧ (tt 87 = some ⟨.func #[28] #[75] false, 1, 8, .nilFunc, false⟩) ∧ (tt 88 = some ⟨.slice 90, 1, 24, .slice none 0 0, false⟩) ∧ (tt 89 = some ⟨.struct (fl 89), 2, 16, .agg #[.int .i64 0, .int .i64 0], true⟩) ∧ ((fl 89).toList = [fd 89 0, fd 89 1]) ∧ ((fl 89)[0]? = some (fd 89 0)) ∧ ((fd 89 0).type = 3) ∧ ((fd 89 0).offset = 0) ∧ ((fl 89)[1]? = some (fd 89 1)) ∧ ((fd 89 1).type = 3) ∧ ((fd 89 1).offset = 1) ∧ (tt 90 = some ⟨.struct (fl 90), 2, 16, .agg #[.int .i64 0, .int .i64 0], true⟩) ∧ ((fl 90).toList = [fd 90 0, fd 90 1]) ∧ ((fl 90)[0]? = some (fd 90 0)) ∧ ((fd 90 0).type = 3) ∧ ((fd 90 0).offset = 0) ∧ ((fl 90)[1]? = some (fd 90 1)) ∧ ((fd 90 1).type = 3) := ⟨fl75_0, fdt75_0, fdo75_0, fl75_1, fdt75_1, fdo75_1, fl75_2, fdt75_2, fdo75_2, fl75_3, fdt75_3, fdo75_3, tt76, tt77, tt78, tt79, tt80, tt81, tt82, tt83, tt84, tt85, tt86, tt87, tt88, tt89, fll89, fl89_0, fdt89_0, fdo89_0, fl89_1, fdt89_1, fdo89_1, tt90, fll90, fl90_0, fdt90_0, fdo90_0, fl90_1, fdt90_1⟩
theorem tyA8 : ((fd 90 1).offset = 1) ∧ (tt 91 = some ⟨.func #[38, 92] #[3] false, 1, 8, .nilFunc, false⟩) ∧ (tt 92 = some ⟨.func #[51] #[4] false, 1, 8, .nilFunc, false⟩) ∧ (tt 93 = some ⟨.func #[26, 85] #[3] false, 1, 8, .nilFunc, false⟩) ∧ (tt 94 = some ⟨.func #[24, 84] #[3] false, 1, 8, .nilFunc, false⟩) ∧ (tt 95 = some ⟨.func #[75] #[4] false, 1, 8, .nilFunc, false⟩) ∧ (tt 96 = some ⟨.func #[75, 24] #[24] false, 1, 8, .nilFunc, false⟩) ∧ (tt 97 = some ⟨.func #[24] #[9] false, 1, 8, .nilFunc, false⟩) ∧ (tt 99 = some ⟨.func #[75, 24, 3] #[24] false, 1, 8, .nilFunc, false⟩) ∧ (tt 101 = some ⟨.func #[75, 24] #[4] false, 1, 8, .nilFunc, false⟩) ∧ (tt 102 = some ⟨.func #[28] #[24] false, 1, 8, .nilFunc, false⟩) ∧ (tt 104 = some ⟨.func #[25] #[25] false, 1, 8, .nilFunc, false⟩) ∧ (tt 105 = some ⟨.func #[73, 108] #[4] false, 1, 8, .nilFunc, false⟩) ∧ (tt 106 = some ⟨.func #[88, 107] #[4] false, 1, 8, .nilFunc, false⟩) ∧ (tt 107 = some ⟨.func #[90] #[4] false, 1, 8, .nilFunc, false⟩) ∧ (tt 108 = some ⟨.func #[88] #[4] false, 1, 8, .nilFunc, false⟩) ∧ (tt 109 = some ⟨.func #[24] #[] false, 1, 8, .nilFunc, false⟩) ∧ (tt 110 = some ⟨.slice 5, 1, 24, .slice none 0 0, false⟩) ∧ (tt 111 = some ⟨.func #[28] #[25] false, 1, 8, .nilFunc, false⟩) ∧ (tt 112 = some ⟨.func #[28, 24, 25, 3] #[9] false, 1, 8, .nilFunc, false⟩) ∧ (tt 113 = some ⟨.func #[73, 108] #[3] false, 1, 8, .nilFunc, false⟩) ∧ (tt 114 = some ⟨.func #[88, 107] #[3] false, 1, 8, .nilFunc, false⟩) ∧ (tt 115 = some ⟨.func #[24, 3, 3, 3] #[] false, 1, 8, .nilFunc, false⟩) ∧ (tt 116 = some ⟨.func #[32] #[3] false, 1, 8, .nilFunc, false⟩) ∧ (tt 117 = some ⟨.func #[24, 3, 3] #[] false, 1, 8, .nilFunc, false⟩) ∧ (tt 118 = some ⟨.int .i64, 1, 8, .int .i64 0, false⟩) ∧ (tt 120 = some ⟨.func #[24, 3, 3] #[3, 118] false, 1, 8, .nilFunc, false⟩) ∧ (tt 121 = some ⟨.func #[24, 3, 3] #[4] false, 1, 8, .nilFunc, false⟩) ∧ (tt 122 = some ⟨.func #[3, 3] #[4] false, 1, 8, .nilFunc, false⟩) ∧ (tt 123 = some ⟨.func #[24, 3, 3, 3] #[3] false, 1, 8, .nilFunc, false⟩) ∧ (tt 124 = some ⟨.func #[24, 3, 3, 3] #[3, 4] false, 1, 8, .nilFunc, false⟩) ∧ (tt 125 = some ⟨.func #[126] #[3] false, 1, 8, .nilFunc, false⟩) ∧ (tt 126 = some ⟨.int .u32, 1, 4, .int .u32 0, false⟩) ∧ (tt 127 = some ⟨.func #[128] #[3] false, 1, 8, .nilFunc, false⟩) ∧ (tt 128 = some ⟨.int .u64, 1, 8, .int .u64 0, false⟩) ∧ (tt 129 = some ⟨.int .u64, 1, 8, .int .u64 0, false⟩) ∧ (tt 130 = some ⟨.func #[3] #[32] false, 1, 8, .nilFunc, false⟩) ∧ (tt 131 = some ⟨.func #[] #[128] false, 1, 8, .nilFunc, false⟩) ∧ (tt 132 = some ⟨.func #[24, 3, 133] #[3] false, 1, 8, .nilFunc, false⟩) ∧ (tt 133 = some ⟨.pointer 3, 1, 8, .pointer none, false⟩) := ⟨fdo90_1, tt91, tt92, tt93, tt94, tt95, tt96, tt97, tt99, tt101, tt102, tt104, tt105, tt106, tt107, tt108, tt109, tt110, tt111, tt112, tt113, tt114, tt115, tt116, tt117, tt118, tt120, tt121, tt122, tt123, tt124, tt125, tt126, tt127, tt128, tt129, tt130, tt131, tt132, tt133⟩
theorem tyA9 : (tt 134 = some ⟨.func #[24, 3, 3, 3, 133] #[3] false, 1, 8, .nilFunc, false⟩) ∧ (tt 135 = some ⟨.pointer 129, 1, 8, .pointer none, false⟩) ∧ (tt 137 = some ⟨.func #[24, 3, 3, 133] #[3, 3] false, 1, 8, .nilFunc, false⟩) ∧ (tt 138 = some ⟨.func #[] #[9] false, 1, 8, .nilFunc, false⟩) ∧ (tt 139 = some ⟨.struct (fl 139), 4, 40, .agg #[.pointer none, .pointer none, .pointer none, .string ByteArray.empty], false⟩) ∧ ((Value.agg #[.pointer none, .pointer none, .pointer none, .string ByteArray.empty]).cells.toList = [.pointer none, .pointer none, .pointer none, .string ByteArray.empty]) ∧ ((fl 139).toList = [fd 139 0, fd 139 1, fd 139 2, fd 139 3]) ∧ ((fl 139)[0]? = some (fd 139 0)) ∧ ((fd 139 0).type = 17) ∧ ((fd 139 0).offset = 0) ∧ ((fl 139)[1]? = some (fd 139 1)) ∧ ((fd 139 1).type = 17) ∧ ((fd 139 1).offset = 1) ∧ ((fl 139)[2]? = some (fd 139 2)) ∧ ((fd 139 2).type = 17) ∧ ((fd 139 2).offset = 2) ∧ ((fl 139)[3]? = some (fd 139 3)) ∧ ((fd 139 3).type = 9) ∧ ((fd 139 3).offset = 3) ∧ (tt 140 = some ⟨.struct (fl 140), 4, 40, .agg #[.pointer none, .pointer none, .pointer none, .string ByteArray.empty], false⟩) ∧ ((fl 140).toList = [fd 140 0, fd 140 1, fd 140 2, fd 140 3]) ∧ ((fl 140)[0]? = some (fd 140 0)) ∧ ((fd 140 0).type = 17) ∧ ((fd 140 0).offset = 0) ∧ ((fl 140)[1]? = some (fd 140 1)) ∧ ((fd 140 1).type = 17) ∧ ((fd 140 1).offset = 1) ∧ ((fl 140)[2]? = some (fd 140 2)) ∧ ((fd 140 2).type = 17) ∧ ((fd 140 2).offset = 2) ∧ ((fl 140)[3]? = some (fd 140 3)) ∧ ((fd 140 3).type = 9) ∧ ((fd 140 3).offset = 3) ∧ (tt 144 = some ⟨.func #[] #[3] false, 1, 8, .nilFunc, false⟩) ∧ (tt 145 = some ⟨.int .u8, 1, 1, .int .u8 0, false⟩) ∧ (tt 146 = some ⟨.int .u8, 1, 1, .int .u8 0, false⟩) ∧ (tt 147 = some ⟨.func #[153, 153] #[4] false, 1, 8, .nilFunc, false⟩) ∧ (tt 148 = some ⟨.pointer 5, 1, 8, .pointer none, false⟩) ∧ (tt 149 = some ⟨.int .i32, 1, 4, .int .i32 0, false⟩) ∧ (tt 150 = some ⟨.int .i32, 1, 4, .int .i32 0, false⟩) := ⟨tt134, tt135, tt137, tt138, tt139, zc139, fll139, fl139_0, fdt139_0, fdo139_0, fl139_1, fdt139_1, fdo139_1, fl139_2, fdt139_2, fdo139_2, fl139_3, fdt139_3, fdo139_3, tt140, fll140, fl140_0, fdt140_0, fdo140_0, fl140_1, fdt140_1, fdo140_1, fl140_2, fdt140_2, fdo140_2, fl140_3, fdt140_3, fdo140_3, tt144, tt145, tt146, tt147, tt148, tt149, tt150⟩
theorem tyA10 : (tt 151 = some ⟨.struct (fl 151), 11, 48, .agg #[.int .u64 0, .int .u64 0, .int .u32 0, .int .u8 0, .int .u8 0, .int .u8 0, .int .u8 0, .nilFunc, .pointer none, .int .i32 0, .int .i32 0], false⟩) ∧ ((Value.agg #[.int .u64 0, .int .u64 0, .int .u32 0, .int .u8 0, .int .u8 0, .int .u8 0, .int .u8 0, .nilFunc, .pointer none, .int .i32 0, .int .i32 0]).cells.toList = [.int .u64 0, .int .u64 0, .int .u32 0, .int .u8 0, .int .u8 0, .int .u8 0, .int .u8 0, .nilFunc, .pointer none, .int .i32 0, .int .i32 0]) ∧ ((fl 151).toList = [fd 151 0, fd 151 1, fd 151 2, fd 151 3, fd 151 4, fd 151 5, fd 151 6, fd 151 7, fd 151 8, fd 151 9, fd 151 10]) ∧ ((fl 151)[0]? = some (fd 151 0)) ∧ ((fd 151 0).type = 12) ∧ ((fd 151 0).offset = 0) ∧ ((fl 151)[1]? = some (fd 151 1)) ∧ ((fd 151 1).type = 12) ∧ ((fd 151 1).offset = 1) ∧ ((fl 151)[2]? = some (fd 151 2)) ∧ ((fd 151 2).type = 126) ∧ ((fd 151 2).offset = 2) ∧ ((fl 151)[3]? = some (fd 151 3)) ∧ ((fd 151 3).type = 145) ∧ ((fd 151 3).offset = 3) ∧ ((fl 151)[4]? = some (fd 151 4)) ∧ ((fd 151 4).type = 5) ∧ ((fd 151 4).offset = 4) ∧ ((fl 151)[5]? = some (fd 151 5)) ∧ ((fd 151 5).type = 5) ∧ ((fd 151 5).offset = 5) ∧ ((fl 151)[6]? = some (fd 151 6)) ∧ ((fd 151 6).type = 146) ∧ ((fd 151 6).offset = 6) ∧ ((fl 151)[7]? = some (fd 151 7)) ∧ ((fd 151 7).type = 147) ∧ ((fd 151 7).offset = 7) ∧ ((fl 151)[8]? = some (fd 151 8)) ∧ ((fd 151 8).type = 148) ∧ ((fd 151 8).offset = 8) ∧ ((fl 151)[9]? = some (fd 151 9)) ∧ ((fd 151 9).type = 149) ∧ ((fd 151 9).offset = 9) ∧ ((fl 151)[10]? = some (fd 151 10)) ∧ ((fd 151 10).type = 150) ∧ ((fd 151 10).offset = 10) ∧ (tt 152 = some ⟨.struct (fl 152), 11, 48, .agg #[.int .u64 0, .int .u64 0, .int .u32 0, .int .u8 0, .int .u8 0, .int .u8 0, .int .u8 0, .nilFunc, .pointer none, .int .i32 0, .int .i32 0], false⟩) ∧ ((fl 152).toList = [fd 152 0, fd 152 1, fd 152 2, fd 152 3, fd 152 4, fd 152 5, fd 152 6, fd 152 7, fd 152 8, fd 152 9, fd 152 10]) ∧ ((fl 152)[0]? = some (fd 152 0)) ∧ ((fd 152 0).type = 12) := ⟨tt151, zc151, fll151, fl151_0, fdt151_0, fdo151_0, fl151_1, fdt151_1, fdo151_1, fl151_2, fdt151_2, fdo151_2, fl151_3, fdt151_3, fdo151_3, fl151_4, fdt151_4, fdo151_4, fl151_5, fdt151_5, fdo151_5, fl151_6, fdt151_6, fdo151_6, fl151_7, fdt151_7, fdo151_7, fl151_8, fdt151_8, fdo151_8, fl151_9, fdt151_9, fdo151_9, fl151_10, fdt151_10, fdo151_10, tt152, fll152, fl152_0, fdt152_0⟩
theorem tyA11 : ((fd 152 0).offset = 0) ∧ ((fl 152)[1]? = some (fd 152 1)) ∧ ((fd 152 1).type = 12) ∧ ((fd 152 1).offset = 1) ∧ ((fl 152)[2]? = some (fd 152 2)) ∧ ((fd 152 2).type = 126) ∧ ((fd 152 2).offset = 2) ∧ ((fl 152)[3]? = some (fd 152 3)) ∧ ((fd 152 3).type = 145) ∧ ((fd 152 3).offset = 3) ∧ ((fl 152)[4]? = some (fd 152 4)) ∧ ((fd 152 4).type = 5) ∧ ((fd 152 4).offset = 4) ∧ ((fl 152)[5]? = some (fd 152 5)) ∧ ((fd 152 5).type = 5) ∧ ((fd 152 5).offset = 5) ∧ ((fl 152)[6]? = some (fd 152 6)) ∧ ((fd 152 6).type = 146) ∧ ((fd 152 6).offset = 6) ∧ ((fl 152)[7]? = some (fd 152 7)) ∧ ((fd 152 7).type = 147) ∧ ((fd 152 7).offset = 7) ∧ ((fl 152)[8]? = some (fd 152 8)) ∧ ((fd 152 8).type = 148) ∧ ((fd 152 8).offset = 8) ∧ ((fl 152)[9]? = some (fd 152 9)) ∧ ((fd 152 9).type = 149) ∧ ((fd 152 9).offset = 9) ∧ ((fl 152)[10]? = some (fd 152 10)) ∧ ((fd 152 10).type = 150) ∧ ((fd 152 10).offset = 10) := ⟨fdo152_0, fl152_1, fdt152_1, fdo152_1, fl152_2, fdt152_2, fdo152_2, fl152_3, fdt152_3, fdo152_3, fl152_4, fdt152_4, fdo152_4, fl152_5, fdt152_5, fdo152_5, fl152_6, fdt152_6, fdo152_6, fl152_7, fdt152_7, fdo152_7, fl152_8, fdt152_8, fdo152_8, fl152_9, fdt152_9, fdo152_9, fl152_10, fdt152_10, fdo152_10⟩
theorem tyA : type_of% (And.intro tyA0 (And.intro tyA1 (And.intro tyA2 (And.intro tyA3 (And.intro tyA4 (And.intro tyA5 (And.intro tyA6 (And.intro tyA7 (And.intro tyA8 (And.intro tyA9 (And.intro tyA10 (tyA11)))))))))))) := And.intro tyA0 (And.intro tyA1 (And.intro tyA2 (And.intro tyA3 (And.intro tyA4 (And.intro tyA5 (And.intro tyA6 (And.intro tyA7 (And.intro tyA8 (And.intro tyA9 (And.intro tyA10 (tyA11)))))))))))
attribute [irreducible] tt fl fd
end Go.Proofs.Ytkpplakjdcpoaaa
