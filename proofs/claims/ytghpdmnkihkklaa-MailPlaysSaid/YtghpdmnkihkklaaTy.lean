/-
  DERIVED by gen_ty.py: what the program says of its types, a lemma each.
-/
import Derived.Test.YtghpdmnkihkklaaChecked
import Derived.Test.YtghpdmnkihkklaaAb15
import Derived.KernelRfl
namespace Go.Proofs.Ytghpdmnkihkklaa
open Go.Ab
set_option linter.unusedSimpArgs false

noncomputable def tt : TypeId → Option TI := ttOf Try.prog
theorem ttok : TTok Try.prog tt := ttOf_ok _
noncomputable def fl (T : TypeId) : Array Field := flOf Try.prog T
noncomputable def fd (T : TypeId) (k : Nat) : Field := (fl T).getD k default

theorem tt2 : tt 2 = some ⟨.int .i64, 1, 8, .int .i64 0, false⟩ := by kernel_rfl
theorem tt3 : tt 3 = some ⟨.int .i64, 1, 8, .int .i64 0, false⟩ := by kernel_rfl
theorem tt4 : tt 4 = some ⟨.bool, 1, 1, .bool false, false⟩ := by kernel_rfl
theorem tt5 : tt 5 = some ⟨.int .u8, 1, 1, .int .u8 0, false⟩ := by kernel_rfl
theorem tt6 : tt 6 = some ⟨.int .u8, 1, 1, .int .u8 0, false⟩ := by kernel_rfl
theorem tt7 : tt 7 = some ⟨.struct (fl 7), 4, 24, .agg #[.int .i64 0, .int .i64 0, .bool false, .int .u8 0], false⟩ := by kernel_rfl
theorem zc7 : (Value.agg #[.int .i64 0, .int .i64 0, .bool false, .int .u8 0]).cells.toList = [.int .i64 0, .int .i64 0, .bool false, .int .u8 0] := by kernel_rfl
theorem fll7 : (fl 7).toList = [fd 7 0, fd 7 1, fd 7 2, fd 7 3] := by kernel_rfl
theorem fl7_0 : (fl 7)[0]? = some (fd 7 0) := by kernel_rfl
theorem fdt7_0 : (fd 7 0).type = 2 := by kernel_rfl
theorem fdo7_0 : (fd 7 0).offset = 0 := by kernel_rfl
theorem fl7_1 : (fl 7)[1]? = some (fd 7 1) := by kernel_rfl
theorem fdt7_1 : (fd 7 1).type = 3 := by kernel_rfl
theorem fdo7_1 : (fd 7 1).offset = 1 := by kernel_rfl
theorem fl7_2 : (fl 7)[2]? = some (fd 7 2) := by kernel_rfl
theorem fdt7_2 : (fd 7 2).type = 4 := by kernel_rfl
theorem fdo7_2 : (fd 7 2).offset = 2 := by kernel_rfl
theorem fl7_3 : (fl 7)[3]? = some (fd 7 3) := by kernel_rfl
theorem fdt7_3 : (fd 7 3).type = 6 := by kernel_rfl
theorem fdo7_3 : (fd 7 3).offset = 3 := by kernel_rfl
theorem tt8 : tt 8 = some ⟨.struct (fl 8), 4, 24, .agg #[.int .i64 0, .int .i64 0, .bool false, .int .u8 0], false⟩ := by kernel_rfl
theorem fll8 : (fl 8).toList = [fd 8 0, fd 8 1, fd 8 2, fd 8 3] := by kernel_rfl
theorem fl8_0 : (fl 8)[0]? = some (fd 8 0) := by kernel_rfl
theorem fdt8_0 : (fd 8 0).type = 2 := by kernel_rfl
theorem fdo8_0 : (fd 8 0).offset = 0 := by kernel_rfl
theorem fl8_1 : (fl 8)[1]? = some (fd 8 1) := by kernel_rfl
theorem fdt8_1 : (fd 8 1).type = 3 := by kernel_rfl
theorem fdo8_1 : (fd 8 1).offset = 1 := by kernel_rfl
theorem fl8_2 : (fl 8)[2]? = some (fd 8 2) := by kernel_rfl
theorem fdt8_2 : (fd 8 2).type = 4 := by kernel_rfl
theorem fdo8_2 : (fd 8 2).offset = 2 := by kernel_rfl
theorem fl8_3 : (fl 8)[3]? = some (fd 8 3) := by kernel_rfl
theorem fdt8_3 : (fd 8 3).type = 6 := by kernel_rfl
theorem fdo8_3 : (fd 8 3).offset = 3 := by kernel_rfl
theorem tt9 : tt 9 = some ⟨.string, 1, 16, .string ByteArray.empty, false⟩ := by kernel_rfl
theorem tt10 : tt 10 = some ⟨.string, 1, 16, .string ByteArray.empty, false⟩ := by kernel_rfl
theorem tt11 : tt 11 = some ⟨.string, 1, 16, .string ByteArray.empty, false⟩ := by kernel_rfl
theorem tt12 : tt 12 = some ⟨.int .u64, 1, 8, .int .u64 0, false⟩ := by kernel_rfl
theorem tt13 : tt 13 = some ⟨.struct (fl 13), 2, 24, .agg #[.string ByteArray.empty, .int .u64 0], false⟩ := by kernel_rfl
theorem zc13 : (Value.agg #[.string ByteArray.empty, .int .u64 0]).cells.toList = [.string ByteArray.empty, .int .u64 0] := by kernel_rfl
theorem fll13 : (fl 13).toList = [fd 13 0, fd 13 1] := by kernel_rfl
theorem fl13_0 : (fl 13)[0]? = some (fd 13 0) := by kernel_rfl
theorem fdt13_0 : (fd 13 0).type = 9 := by kernel_rfl
theorem fdo13_0 : (fd 13 0).offset = 0 := by kernel_rfl
theorem fl13_1 : (fl 13)[1]? = some (fd 13 1) := by kernel_rfl
theorem fdt13_1 : (fd 13 1).type = 12 := by kernel_rfl
theorem fdo13_1 : (fd 13 1).offset = 1 := by kernel_rfl
theorem tt14 : tt 14 = some ⟨.struct (fl 14), 2, 24, .agg #[.string ByteArray.empty, .int .u64 0], false⟩ := by kernel_rfl
theorem fll14 : (fl 14).toList = [fd 14 0, fd 14 1] := by kernel_rfl
theorem fl14_0 : (fl 14)[0]? = some (fd 14 0) := by kernel_rfl
theorem fdt14_0 : (fd 14 0).type = 9 := by kernel_rfl
theorem fdo14_0 : (fd 14 0).offset = 0 := by kernel_rfl
theorem fl14_1 : (fl 14)[1]? = some (fd 14 1) := by kernel_rfl
theorem fdt14_1 : (fd 14 1).type = 12 := by kernel_rfl
theorem fdo14_1 : (fd 14 1).offset = 1 := by kernel_rfl
theorem tt15 : tt 15 = some ⟨.pointer 61, 1, 8, .pointer none, false⟩ := by kernel_rfl
theorem tt16 : tt 16 = some ⟨.pointer 64, 1, 8, .pointer none, false⟩ := by kernel_rfl
theorem tt17 : tt 17 = some ⟨.pointer 73, 1, 8, .pointer none, false⟩ := by kernel_rfl
theorem tt18 : tt 18 = some ⟨.struct (fl 18), 1, 8, .agg #[.pointer none], false⟩ := by kernel_rfl
theorem zc18 : (Value.agg #[.pointer none]).cells.toList = [.pointer none] := by kernel_rfl
theorem fll18 : (fl 18).toList = [fd 18 0] := by kernel_rfl
theorem fl18_0 : (fl 18)[0]? = some (fd 18 0) := by kernel_rfl
theorem fdt18_0 : (fd 18 0).type = 17 := by kernel_rfl
theorem fdo18_0 : (fd 18 0).offset = 0 := by kernel_rfl
theorem tt19 : tt 19 = some ⟨.struct (fl 19), 1, 8, .agg #[.pointer none], false⟩ := by kernel_rfl
theorem fll19 : (fl 19).toList = [fd 19 0] := by kernel_rfl
theorem fl19_0 : (fl 19)[0]? = some (fd 19 0) := by kernel_rfl
theorem fdt19_0 : (fd 19 0).type = 17 := by kernel_rfl
theorem fdo19_0 : (fd 19 0).offset = 0 := by kernel_rfl
theorem tt21 : tt 21 = some ⟨.int .i32, 1, 4, .int .i32 0, false⟩ := by kernel_rfl
theorem tt22 : tt 22 = some ⟨.slice 3, 1, 24, .slice none 0 0, false⟩ := by kernel_rfl
theorem tt23 : tt 23 = some ⟨.int .u64, 1, 8, .int .u64 0, false⟩ := by kernel_rfl
theorem tt24 : tt 24 = some ⟨.struct (fl 24), 2, 32, .agg #[.int .i64 0, .slice none 0 0], false⟩ := by kernel_rfl
theorem zc24 : (Value.agg #[.int .i64 0, .slice none 0 0]).cells.toList = [.int .i64 0, .slice none 0 0] := by kernel_rfl
theorem fll24 : (fl 24).toList = [fd 24 0, fd 24 1] := by kernel_rfl
theorem fl24_0 : (fl 24)[0]? = some (fd 24 0) := by kernel_rfl
theorem fdt24_0 : (fd 24 0).type = 3 := by kernel_rfl
theorem fdo24_0 : (fd 24 0).offset = 0 := by kernel_rfl
theorem fl24_1 : (fl 24)[1]? = some (fd 24 1) := by kernel_rfl
theorem fdt24_1 : (fd 24 1).type = 22 := by kernel_rfl
theorem fdo24_1 : (fd 24 1).offset = 1 := by kernel_rfl
theorem tt25 : tt 25 = some ⟨.struct (fl 25), 2, 32, .agg #[.int .i64 0, .slice none 0 0], false⟩ := by kernel_rfl
theorem fll25 : (fl 25).toList = [fd 25 0, fd 25 1] := by kernel_rfl
theorem fl25_0 : (fl 25)[0]? = some (fd 25 0) := by kernel_rfl
theorem fdt25_0 : (fd 25 0).type = 3 := by kernel_rfl
theorem fdo25_0 : (fd 25 0).offset = 0 := by kernel_rfl
theorem fl25_1 : (fl 25)[1]? = some (fd 25 1) := by kernel_rfl
theorem fdt25_1 : (fd 25 1).type = 22 := by kernel_rfl
theorem fdo25_1 : (fd 25 1).offset = 1 := by kernel_rfl
theorem tt26 : tt 26 = some ⟨.slice 25, 1, 24, .slice none 0 0, false⟩ := by kernel_rfl
theorem tt27 : tt 27 = some ⟨.struct (fl 27), 4, 64, .agg #[.int .i64 0, .int .i64 0, .slice none 0 0, .slice none 0 0], false⟩ := by kernel_rfl
theorem zc27 : (Value.agg #[.int .i64 0, .int .i64 0, .slice none 0 0, .slice none 0 0]).cells.toList = [.int .i64 0, .int .i64 0, .slice none 0 0, .slice none 0 0] := by kernel_rfl
theorem fll27 : (fl 27).toList = [fd 27 0, fd 27 1, fd 27 2, fd 27 3] := by kernel_rfl
theorem fl27_0 : (fl 27)[0]? = some (fd 27 0) := by kernel_rfl
theorem fdt27_0 : (fd 27 0).type = 3 := by kernel_rfl
theorem fdo27_0 : (fd 27 0).offset = 0 := by kernel_rfl
theorem fl27_1 : (fl 27)[1]? = some (fd 27 1) := by kernel_rfl
theorem fdt27_1 : (fd 27 1).type = 3 := by kernel_rfl
theorem fdo27_1 : (fd 27 1).offset = 1 := by kernel_rfl
theorem fl27_2 : (fl 27)[2]? = some (fd 27 2) := by kernel_rfl
theorem fdt27_2 : (fd 27 2).type = 26 := by kernel_rfl
theorem fdo27_2 : (fd 27 2).offset = 2 := by kernel_rfl
theorem fl27_3 : (fl 27)[3]? = some (fd 27 3) := by kernel_rfl
theorem fdt27_3 : (fd 27 3).type = 22 := by kernel_rfl
theorem fdo27_3 : (fd 27 3).offset = 3 := by kernel_rfl
theorem tt28 : tt 28 = some ⟨.struct (fl 28), 4, 64, .agg #[.int .i64 0, .int .i64 0, .slice none 0 0, .slice none 0 0], false⟩ := by kernel_rfl
theorem fll28 : (fl 28).toList = [fd 28 0, fd 28 1, fd 28 2, fd 28 3] := by kernel_rfl
theorem fl28_0 : (fl 28)[0]? = some (fd 28 0) := by kernel_rfl
theorem fdt28_0 : (fd 28 0).type = 3 := by kernel_rfl
theorem fdo28_0 : (fd 28 0).offset = 0 := by kernel_rfl
theorem fl28_1 : (fl 28)[1]? = some (fd 28 1) := by kernel_rfl
theorem fdt28_1 : (fd 28 1).type = 3 := by kernel_rfl
theorem fdo28_1 : (fd 28 1).offset = 1 := by kernel_rfl
theorem fl28_2 : (fl 28)[2]? = some (fd 28 2) := by kernel_rfl
theorem fdt28_2 : (fd 28 2).type = 26 := by kernel_rfl
theorem fdo28_2 : (fd 28 2).offset = 2 := by kernel_rfl
theorem fl28_3 : (fl 28)[3]? = some (fd 28 3) := by kernel_rfl
theorem fdt28_3 : (fd 28 3).type = 22 := by kernel_rfl
theorem fdo28_3 : (fd 28 3).offset = 3 := by kernel_rfl
theorem tt34 : tt 34 = some ⟨.slice 37, 1, 24, .slice none 0 0, false⟩ := by kernel_rfl
theorem tt35 : tt 35 = some ⟨.slice 28, 1, 24, .slice none 0 0, false⟩ := by kernel_rfl
theorem tt36 : tt 36 = some ⟨.slice 22, 1, 24, .slice none 0 0, false⟩ := by kernel_rfl
theorem tt37 : tt 37 = some ⟨.array 3 3, 3, 24, .agg #[.int .i64 0, .int .i64 0, .int .i64 0], false⟩ := by kernel_rfl
theorem zc37 : (Value.agg #[.int .i64 0, .int .i64 0, .int .i64 0]).cells.toList = [.int .i64 0, .int .i64 0, .int .i64 0] := by kernel_rfl
theorem tt38 : tt 38 = some ⟨.pointer 25, 1, 8, .pointer none, false⟩ := by kernel_rfl
theorem tt39 : tt 39 = some ⟨.struct (fl 39), 3, 40, .agg #[.int .i64 0, .int .i64 0, .slice none 0 0], false⟩ := by kernel_rfl
theorem zc39 : (Value.agg #[.int .i64 0, .int .i64 0, .slice none 0 0]).cells.toList = [.int .i64 0, .int .i64 0, .slice none 0 0] := by kernel_rfl
theorem fll39 : (fl 39).toList = [fd 39 0, fd 39 1, fd 39 2] := by kernel_rfl
theorem fl39_0 : (fl 39)[0]? = some (fd 39 0) := by kernel_rfl
theorem fdt39_0 : (fd 39 0).type = 3 := by kernel_rfl
theorem fdo39_0 : (fd 39 0).offset = 0 := by kernel_rfl
theorem fl39_1 : (fl 39)[1]? = some (fd 39 1) := by kernel_rfl
theorem fdt39_1 : (fd 39 1).type = 3 := by kernel_rfl
theorem fdo39_1 : (fd 39 1).offset = 1 := by kernel_rfl
theorem fl39_2 : (fl 39)[2]? = some (fd 39 2) := by kernel_rfl
theorem fdt39_2 : (fd 39 2).type = 36 := by kernel_rfl
theorem fdo39_2 : (fd 39 2).offset = 2 := by kernel_rfl
theorem tt40 : tt 40 = some ⟨.struct (fl 40), 3, 40, .agg #[.int .i64 0, .int .i64 0, .slice none 0 0], false⟩ := by kernel_rfl
theorem fll40 : (fl 40).toList = [fd 40 0, fd 40 1, fd 40 2] := by kernel_rfl
theorem fl40_0 : (fl 40)[0]? = some (fd 40 0) := by kernel_rfl
theorem fdt40_0 : (fd 40 0).type = 3 := by kernel_rfl
theorem fdo40_0 : (fd 40 0).offset = 0 := by kernel_rfl
theorem fl40_1 : (fl 40)[1]? = some (fd 40 1) := by kernel_rfl
theorem fdt40_1 : (fd 40 1).type = 3 := by kernel_rfl
theorem fdo40_1 : (fd 40 1).offset = 1 := by kernel_rfl
theorem fl40_2 : (fl 40)[2]? = some (fd 40 2) := by kernel_rfl
theorem fdt40_2 : (fd 40 2).type = 36 := by kernel_rfl
theorem fdo40_2 : (fd 40 2).offset = 2 := by kernel_rfl
theorem tt56 : tt 56 = some ⟨.slice 5, 1, 24, .slice none 0 0, false⟩ := by kernel_rfl
theorem tt60 : tt 60 = some ⟨.struct (fl 60), 4, 40, .agg #[.pointer none, .pointer none, .pointer none, .string ByteArray.empty], false⟩ := by kernel_rfl
theorem zc60 : (Value.agg #[.pointer none, .pointer none, .pointer none, .string ByteArray.empty]).cells.toList = [.pointer none, .pointer none, .pointer none, .string ByteArray.empty] := by kernel_rfl
theorem fll60 : (fl 60).toList = [fd 60 0, fd 60 1, fd 60 2, fd 60 3] := by kernel_rfl
theorem fl60_0 : (fl 60)[0]? = some (fd 60 0) := by kernel_rfl
theorem fdt60_0 : (fd 60 0).type = 17 := by kernel_rfl
theorem fdo60_0 : (fd 60 0).offset = 0 := by kernel_rfl
theorem fl60_1 : (fl 60)[1]? = some (fd 60 1) := by kernel_rfl
theorem fdt60_1 : (fd 60 1).type = 17 := by kernel_rfl
theorem fdo60_1 : (fd 60 1).offset = 1 := by kernel_rfl
theorem fl60_2 : (fl 60)[2]? = some (fd 60 2) := by kernel_rfl
theorem fdt60_2 : (fd 60 2).type = 17 := by kernel_rfl
theorem fdo60_2 : (fd 60 2).offset = 2 := by kernel_rfl
theorem fl60_3 : (fl 60)[3]? = some (fd 60 3) := by kernel_rfl
theorem fdt60_3 : (fd 60 3).type = 9 := by kernel_rfl
theorem fdo60_3 : (fd 60 3).offset = 3 := by kernel_rfl
theorem tt61 : tt 61 = some ⟨.struct (fl 61), 4, 40, .agg #[.pointer none, .pointer none, .pointer none, .string ByteArray.empty], false⟩ := by kernel_rfl
theorem fll61 : (fl 61).toList = [fd 61 0, fd 61 1, fd 61 2, fd 61 3] := by kernel_rfl
theorem fl61_0 : (fl 61)[0]? = some (fd 61 0) := by kernel_rfl
theorem fdt61_0 : (fd 61 0).type = 17 := by kernel_rfl
theorem fdo61_0 : (fd 61 0).offset = 0 := by kernel_rfl
theorem fl61_1 : (fl 61)[1]? = some (fd 61 1) := by kernel_rfl
theorem fdt61_1 : (fd 61 1).type = 17 := by kernel_rfl
theorem fdo61_1 : (fd 61 1).offset = 1 := by kernel_rfl
theorem fl61_2 : (fl 61)[2]? = some (fd 61 2) := by kernel_rfl
theorem fdt61_2 : (fd 61 2).type = 17 := by kernel_rfl
theorem fdo61_2 : (fd 61 2).offset = 2 := by kernel_rfl
theorem fl61_3 : (fl 61)[3]? = some (fd 61 3) := by kernel_rfl
theorem fdt61_3 : (fd 61 3).type = 9 := by kernel_rfl
theorem fdo61_3 : (fd 61 3).offset = 3 := by kernel_rfl
theorem tt65 : tt 65 = some ⟨.int .u32, 1, 4, .int .u32 0, false⟩ := by kernel_rfl
theorem tt66 : tt 66 = some ⟨.int .u8, 1, 1, .int .u8 0, false⟩ := by kernel_rfl
theorem tt67 : tt 67 = some ⟨.int .u8, 1, 1, .int .u8 0, false⟩ := by kernel_rfl
theorem tt69 : tt 69 = some ⟨.pointer 5, 1, 8, .pointer none, false⟩ := by kernel_rfl
theorem tt70 : tt 70 = some ⟨.int .i32, 1, 4, .int .i32 0, false⟩ := by kernel_rfl
theorem tt71 : tt 71 = some ⟨.int .i32, 1, 4, .int .i32 0, false⟩ := by kernel_rfl
theorem tt72 : tt 72 = some ⟨.struct (fl 72), 11, 48, .agg #[.int .u64 0, .int .u64 0, .int .u32 0, .int .u8 0, .int .u8 0, .int .u8 0, .int .u8 0, .nilFunc, .pointer none, .int .i32 0, .int .i32 0], false⟩ := by kernel_rfl
theorem zc72 : (Value.agg #[.int .u64 0, .int .u64 0, .int .u32 0, .int .u8 0, .int .u8 0, .int .u8 0, .int .u8 0, .nilFunc, .pointer none, .int .i32 0, .int .i32 0]).cells.toList = [.int .u64 0, .int .u64 0, .int .u32 0, .int .u8 0, .int .u8 0, .int .u8 0, .int .u8 0, .nilFunc, .pointer none, .int .i32 0, .int .i32 0] := by kernel_rfl
theorem fll72 : (fl 72).toList = [fd 72 0, fd 72 1, fd 72 2, fd 72 3, fd 72 4, fd 72 5, fd 72 6, fd 72 7, fd 72 8, fd 72 9, fd 72 10] := by kernel_rfl
theorem fl72_0 : (fl 72)[0]? = some (fd 72 0) := by kernel_rfl
theorem fdt72_0 : (fd 72 0).type = 12 := by kernel_rfl
theorem fdo72_0 : (fd 72 0).offset = 0 := by kernel_rfl
theorem fl72_1 : (fl 72)[1]? = some (fd 72 1) := by kernel_rfl
theorem fdt72_1 : (fd 72 1).type = 12 := by kernel_rfl
theorem fdo72_1 : (fd 72 1).offset = 1 := by kernel_rfl
theorem fl72_2 : (fl 72)[2]? = some (fd 72 2) := by kernel_rfl
theorem fdt72_2 : (fd 72 2).type = 65 := by kernel_rfl
theorem fdo72_2 : (fd 72 2).offset = 2 := by kernel_rfl
theorem fl72_3 : (fl 72)[3]? = some (fd 72 3) := by kernel_rfl
theorem fdt72_3 : (fd 72 3).type = 66 := by kernel_rfl
theorem fdo72_3 : (fd 72 3).offset = 3 := by kernel_rfl
theorem fl72_4 : (fl 72)[4]? = some (fd 72 4) := by kernel_rfl
theorem fdt72_4 : (fd 72 4).type = 5 := by kernel_rfl
theorem fdo72_4 : (fd 72 4).offset = 4 := by kernel_rfl
theorem fl72_5 : (fl 72)[5]? = some (fd 72 5) := by kernel_rfl
theorem fdt72_5 : (fd 72 5).type = 5 := by kernel_rfl
theorem fdo72_5 : (fd 72 5).offset = 5 := by kernel_rfl
theorem fl72_6 : (fl 72)[6]? = some (fd 72 6) := by kernel_rfl
theorem fdt72_6 : (fd 72 6).type = 67 := by kernel_rfl
theorem fdo72_6 : (fd 72 6).offset = 6 := by kernel_rfl
theorem fl72_7 : (fl 72)[7]? = some (fd 72 7) := by kernel_rfl
theorem fdt72_7 : (fd 72 7).type = 68 := by kernel_rfl
theorem fdo72_7 : (fd 72 7).offset = 7 := by kernel_rfl
theorem fl72_8 : (fl 72)[8]? = some (fd 72 8) := by kernel_rfl
theorem fdt72_8 : (fd 72 8).type = 69 := by kernel_rfl
theorem fdo72_8 : (fd 72 8).offset = 8 := by kernel_rfl
theorem fl72_9 : (fl 72)[9]? = some (fd 72 9) := by kernel_rfl
theorem fdt72_9 : (fd 72 9).type = 70 := by kernel_rfl
theorem fdo72_9 : (fd 72 9).offset = 9 := by kernel_rfl
theorem fl72_10 : (fl 72)[10]? = some (fd 72 10) := by kernel_rfl
theorem fdt72_10 : (fd 72 10).type = 71 := by kernel_rfl
theorem fdo72_10 : (fd 72 10).offset = 10 := by kernel_rfl
theorem tt73 : tt 73 = some ⟨.struct (fl 73), 11, 48, .agg #[.int .u64 0, .int .u64 0, .int .u32 0, .int .u8 0, .int .u8 0, .int .u8 0, .int .u8 0, .nilFunc, .pointer none, .int .i32 0, .int .i32 0], false⟩ := by kernel_rfl
theorem fll73 : (fl 73).toList = [fd 73 0, fd 73 1, fd 73 2, fd 73 3, fd 73 4, fd 73 5, fd 73 6, fd 73 7, fd 73 8, fd 73 9, fd 73 10] := by kernel_rfl
theorem fl73_0 : (fl 73)[0]? = some (fd 73 0) := by kernel_rfl
theorem fdt73_0 : (fd 73 0).type = 12 := by kernel_rfl
theorem fdo73_0 : (fd 73 0).offset = 0 := by kernel_rfl
theorem fl73_1 : (fl 73)[1]? = some (fd 73 1) := by kernel_rfl
theorem fdt73_1 : (fd 73 1).type = 12 := by kernel_rfl
theorem fdo73_1 : (fd 73 1).offset = 1 := by kernel_rfl
theorem fl73_2 : (fl 73)[2]? = some (fd 73 2) := by kernel_rfl
theorem fdt73_2 : (fd 73 2).type = 65 := by kernel_rfl
theorem fdo73_2 : (fd 73 2).offset = 2 := by kernel_rfl
theorem fl73_3 : (fl 73)[3]? = some (fd 73 3) := by kernel_rfl
theorem fdt73_3 : (fd 73 3).type = 66 := by kernel_rfl
theorem fdo73_3 : (fd 73 3).offset = 3 := by kernel_rfl
theorem fl73_4 : (fl 73)[4]? = some (fd 73 4) := by kernel_rfl
theorem fdt73_4 : (fd 73 4).type = 5 := by kernel_rfl
theorem fdo73_4 : (fd 73 4).offset = 4 := by kernel_rfl
theorem fl73_5 : (fl 73)[5]? = some (fd 73 5) := by kernel_rfl
theorem fdt73_5 : (fd 73 5).type = 5 := by kernel_rfl
theorem fdo73_5 : (fd 73 5).offset = 5 := by kernel_rfl
theorem fl73_6 : (fl 73)[6]? = some (fd 73 6) := by kernel_rfl
theorem fdt73_6 : (fd 73 6).type = 67 := by kernel_rfl
theorem fdo73_6 : (fd 73 6).offset = 6 := by kernel_rfl
theorem fl73_7 : (fl 73)[7]? = some (fd 73 7) := by kernel_rfl
theorem fdt73_7 : (fd 73 7).type = 68 := by kernel_rfl
theorem fdo73_7 : (fd 73 7).offset = 7 := by kernel_rfl
theorem fl73_8 : (fl 73)[8]? = some (fd 73 8) := by kernel_rfl
theorem fdt73_8 : (fd 73 8).type = 69 := by kernel_rfl
theorem fdo73_8 : (fd 73 8).offset = 8 := by kernel_rfl
theorem fl73_9 : (fl 73)[9]? = some (fd 73 9) := by kernel_rfl
theorem fdt73_9 : (fd 73 9).type = 70 := by kernel_rfl
theorem fdo73_9 : (fd 73 9).offset = 9 := by kernel_rfl
theorem fl73_10 : (fl 73)[10]? = some (fd 73 10) := by kernel_rfl
theorem fdt73_10 : (fd 73 10).type = 71 := by kernel_rfl
theorem fdo73_10 : (fd 73 10).offset = 10 := by kernel_rfl
theorem fnok3 : FnOk Try.prog 3 := ⟨_, Try.func3, by kernel_rfl, by kernel_rfl⟩
theorem fnok4 : FnOk Try.prog 4 := ⟨_, Try.func4, by kernel_rfl, by kernel_rfl⟩
theorem fnok5 : FnOk Try.prog 5 := ⟨_, Try.func5, by kernel_rfl, by kernel_rfl⟩
theorem fnok6 : FnOk Try.prog 6 := ⟨_, Try.func6, by kernel_rfl, by kernel_rfl⟩
theorem fnok7 : FnOk Try.prog 7 := ⟨_, Try.func7, by kernel_rfl, by kernel_rfl⟩
theorem fnok8 : FnOk Try.prog 8 := ⟨_, Try.func8, by kernel_rfl, by kernel_rfl⟩
theorem fnok9 : FnOk Try.prog 9 := ⟨_, Try.func9, by kernel_rfl, by kernel_rfl⟩
theorem fnok10 : FnOk Try.prog 10 := ⟨_, Try.func10, by kernel_rfl, by kernel_rfl⟩
theorem fnok11 : FnOk Try.prog 11 := ⟨_, Try.func11, by kernel_rfl, by kernel_rfl⟩
theorem fnok12 : FnOk Try.prog 12 := ⟨_, Try.func12, by kernel_rfl, by kernel_rfl⟩
theorem fnok13 : FnOk Try.prog 13 := ⟨_, Try.func13, by kernel_rfl, by kernel_rfl⟩
theorem fnok14 : FnOk Try.prog 14 := ⟨_, Try.func14, by kernel_rfl, by kernel_rfl⟩
theorem fnok15 : FnOk Try.prog 15 := ⟨_, Try.func15, by kernel_rfl, by kernel_rfl⟩
theorem fnok16 : FnOk Try.prog 16 := ⟨_, Try.func16, by kernel_rfl, by kernel_rfl⟩
theorem fnok17 : FnOk Try.prog 17 := ⟨_, Try.func17, by kernel_rfl, by kernel_rfl⟩
theorem fnok18 : FnOk Try.prog 18 := ⟨_, Try.func18, by kernel_rfl, by kernel_rfl⟩
theorem fnok19 : FnOk Try.prog 19 := ⟨_, Try.func19, by kernel_rfl, by kernel_rfl⟩
theorem fnok20 : FnOk Try.prog 20 := ⟨_, Try.func20, by kernel_rfl, by kernel_rfl⟩
theorem fnok21 : FnOk Try.prog 21 := ⟨_, Try.func21, by kernel_rfl, by kernel_rfl⟩
theorem fnok22 : FnOk Try.prog 22 := ⟨_, Try.func22, by kernel_rfl, by kernel_rfl⟩
theorem fnok23 : FnOk Try.prog 23 := ⟨_, Try.func23, by kernel_rfl, by kernel_rfl⟩
theorem fnok24 : FnOk Try.prog 24 := ⟨_, Try.func24, by kernel_rfl, by kernel_rfl⟩
theorem fnok25 : FnOk Try.prog 25 := ⟨_, Try.func25, by kernel_rfl, by kernel_rfl⟩
theorem fnok26 : FnOk Try.prog 26 := ⟨_, Try.func26, by kernel_rfl, by kernel_rfl⟩
theorem fnok27 : FnOk Try.prog 27 := ⟨_, Try.func27, by kernel_rfl, by kernel_rfl⟩
theorem fnok28 : FnOk Try.prog 28 := ⟨_, Try.func28, by kernel_rfl, by kernel_rfl⟩
theorem fnok29 : FnOk Try.prog 29 := ⟨_, Try.func29, by kernel_rfl, by kernel_rfl⟩
theorem tyA0 : (tt 2 = some ⟨.int .i64, 1, 8, .int .i64 0, false⟩) ∧ (tt 3 = some ⟨.int .i64, 1, 8, .int .i64 0, false⟩) ∧ (tt 4 = some ⟨.bool, 1, 1, .bool false, false⟩) ∧ (tt 5 = some ⟨.int .u8, 1, 1, .int .u8 0, false⟩) ∧ (tt 6 = some ⟨.int .u8, 1, 1, .int .u8 0, false⟩) ∧ (tt 7 = some ⟨.struct (fl 7), 4, 24, .agg #[.int .i64 0, .int .i64 0, .bool false, .int .u8 0], false⟩) ∧ ((Value.agg #[.int .i64 0, .int .i64 0, .bool false, .int .u8 0]).cells.toList = [.int .i64 0, .int .i64 0, .bool false, .int .u8 0]) ∧ ((fl 7).toList = [fd 7 0, fd 7 1, fd 7 2, fd 7 3]) ∧ ((fl 7)[0]? = some (fd 7 0)) ∧ ((fd 7 0).type = 2) ∧ ((fd 7 0).offset = 0) ∧ ((fl 7)[1]? = some (fd 7 1)) ∧ ((fd 7 1).type = 3) ∧ ((fd 7 1).offset = 1) ∧ ((fl 7)[2]? = some (fd 7 2)) ∧ ((fd 7 2).type = 4) ∧ ((fd 7 2).offset = 2) ∧ ((fl 7)[3]? = some (fd 7 3)) ∧ ((fd 7 3).type = 6) ∧ ((fd 7 3).offset = 3) ∧ (tt 8 = some ⟨.struct (fl 8), 4, 24, .agg #[.int .i64 0, .int .i64 0, .bool false, .int .u8 0], false⟩) ∧ ((fl 8).toList = [fd 8 0, fd 8 1, fd 8 2, fd 8 3]) ∧ ((fl 8)[0]? = some (fd 8 0)) ∧ ((fd 8 0).type = 2) ∧ ((fd 8 0).offset = 0) ∧ ((fl 8)[1]? = some (fd 8 1)) ∧ ((fd 8 1).type = 3) ∧ ((fd 8 1).offset = 1) ∧ ((fl 8)[2]? = some (fd 8 2)) ∧ ((fd 8 2).type = 4) ∧ ((fd 8 2).offset = 2) ∧ ((fl 8)[3]? = some (fd 8 3)) ∧ ((fd 8 3).type = 6) ∧ ((fd 8 3).offset = 3) ∧ (tt 9 = some ⟨.string, 1, 16, .string ByteArray.empty, false⟩) ∧ (tt 10 = some ⟨.string, 1, 16, .string ByteArray.empty, false⟩) ∧ (tt 11 = some ⟨.string, 1, 16, .string ByteArray.empty, false⟩) ∧ (tt 12 = some ⟨.int .u64, 1, 8, .int .u64 0, false⟩) ∧ (tt 13 = some ⟨.struct (fl 13), 2, 24, .agg #[.string ByteArray.empty, .int .u64 0], false⟩) ∧ ((Value.agg #[.string ByteArray.empty, .int .u64 0]).cells.toList = [.string ByteArray.empty, .int .u64 0]) := ⟨tt2, tt3, tt4, tt5, tt6, tt7, zc7, fll7, fl7_0, fdt7_0, fdo7_0, fl7_1, fdt7_1, fdo7_1, fl7_2, fdt7_2, fdo7_2, fl7_3, fdt7_3, fdo7_3, tt8, fll8, fl8_0, fdt8_0, fdo8_0, fl8_1, fdt8_1, fdo8_1, fl8_2, fdt8_2, fdo8_2, fl8_3, fdt8_3, fdo8_3, tt9, tt10, tt11, tt12, tt13, zc13⟩
theorem tyA1 : ((fl 13).toList = [fd 13 0, fd 13 1]) ∧ ((fl 13)[0]? = some (fd 13 0)) ∧ ((fd 13 0).type = 9) ∧ ((fd 13 0).offset = 0) ∧ ((fl 13)[1]? = some (fd 13 1)) ∧ ((fd 13 1).type = 12) ∧ ((fd 13 1).offset = 1) ∧ (tt 14 = some ⟨.struct (fl 14), 2, 24, .agg #[.string ByteArray.empty, .int .u64 0], false⟩) ∧ ((fl 14).toList = [fd 14 0, fd 14 1]) ∧ ((fl 14)[0]? = some (fd 14 0)) ∧ ((fd 14 0).type = 9) ∧ ((fd 14 0).offset = 0) ∧ ((fl 14)[1]? = some (fd 14 1)) ∧ ((fd 14 1).type = 12) ∧ ((fd 14 1).offset = 1) ∧ (tt 15 = some ⟨.pointer 61, 1, 8, .pointer none, false⟩) ∧ (tt 16 = some ⟨.pointer 64, 1, 8, .pointer none, false⟩) ∧ (tt 17 = some ⟨.pointer 73, 1, 8, .pointer none, false⟩) ∧ (tt 18 = some ⟨.struct (fl 18), 1, 8, .agg #[.pointer none], false⟩) ∧ ((Value.agg #[.pointer none]).cells.toList = [.pointer none]) ∧ ((fl 18).toList = [fd 18 0]) ∧ ((fl 18)[0]? = some (fd 18 0)) ∧ ((fd 18 0).type = 17) ∧ ((fd 18 0).offset = 0) ∧ (tt 19 = some ⟨.struct (fl 19), 1, 8, .agg #[.pointer none], false⟩) ∧ ((fl 19).toList = [fd 19 0]) ∧ ((fl 19)[0]? = some (fd 19 0)) ∧ ((fd 19 0).type = 17) ∧ ((fd 19 0).offset = 0) ∧ (tt 21 = some ⟨.int .i32, 1, 4, .int .i32 0, false⟩) ∧ (tt 22 = some ⟨.slice 3, 1, 24, .slice none 0 0, false⟩) ∧ (tt 23 = some ⟨.int .u64, 1, 8, .int .u64 0, false⟩) ∧ (tt 24 = some ⟨.struct (fl 24), 2, 32, .agg #[.int .i64 0, .slice none 0 0], false⟩) ∧ ((Value.agg #[.int .i64 0, .slice none 0 0]).cells.toList = [.int .i64 0, .slice none 0 0]) ∧ ((fl 24).toList = [fd 24 0, fd 24 1]) ∧ ((fl 24)[0]? = some (fd 24 0)) ∧ ((fd 24 0).type = 3) ∧ ((fd 24 0).offset = 0) ∧ ((fl 24)[1]? = some (fd 24 1)) ∧ ((fd 24 1).type = 22) := ⟨fll13, fl13_0, fdt13_0, fdo13_0, fl13_1, fdt13_1, fdo13_1, tt14, fll14, fl14_0, fdt14_0, fdo14_0, fl14_1, fdt14_1, fdo14_1, tt15, tt16, tt17, tt18, zc18, fll18, fl18_0, fdt18_0, fdo18_0, tt19, fll19, fl19_0, fdt19_0, fdo19_0, tt21, tt22, tt23, tt24, zc24, fll24, fl24_0, fdt24_0, fdo24_0, fl24_1, fdt24_1⟩
theorem tyA2 : ((fd 24 1).offset = 1) ∧ (tt 25 = some ⟨.struct (fl 25), 2, 32, .agg #[.int .i64 0, .slice none 0 0], false⟩) ∧ ((fl 25).toList = [fd 25 0, fd 25 1]) ∧ ((fl 25)[0]? = some (fd 25 0)) ∧ ((fd 25 0).type = 3) ∧ ((fd 25 0).offset = 0) ∧ ((fl 25)[1]? = some (fd 25 1)) ∧ ((fd 25 1).type = 22) ∧ ((fd 25 1).offset = 1) ∧ (tt 26 = some ⟨.slice 25, 1, 24, .slice none 0 0, false⟩) ∧ (tt 27 = some ⟨.struct (fl 27), 4, 64, .agg #[.int .i64 0, .int .i64 0, .slice none 0 0, .slice none 0 0], false⟩) ∧ ((Value.agg #[.int .i64 0, .int .i64 0, .slice none 0 0, .slice none 0 0]).cells.toList = [.int .i64 0, .int .i64 0, .slice none 0 0, .slice none 0 0]) ∧ ((fl 27).toList = [fd 27 0, fd 27 1, fd 27 2, fd 27 3]) ∧ ((fl 27)[0]? = some (fd 27 0)) ∧ ((fd 27 0).type = 3) ∧ ((fd 27 0).offset = 0) ∧ ((fl 27)[1]? = some (fd 27 1)) ∧ ((fd 27 1).type = 3) ∧ ((fd 27 1).offset = 1) ∧ ((fl 27)[2]? = some (fd 27 2)) ∧ ((fd 27 2).type = 26) ∧ ((fd 27 2).offset = 2) ∧ ((fl 27)[3]? = some (fd 27 3)) ∧ ((fd 27 3).type = 22) ∧ ((fd 27 3).offset = 3) ∧ (tt 28 = some ⟨.struct (fl 28), 4, 64, .agg #[.int .i64 0, .int .i64 0, .slice none 0 0, .slice none 0 0], false⟩) ∧ ((fl 28).toList = [fd 28 0, fd 28 1, fd 28 2, fd 28 3]) ∧ ((fl 28)[0]? = some (fd 28 0)) ∧ ((fd 28 0).type = 3) ∧ ((fd 28 0).offset = 0) ∧ ((fl 28)[1]? = some (fd 28 1)) ∧ ((fd 28 1).type = 3) ∧ ((fd 28 1).offset = 1) ∧ ((fl 28)[2]? = some (fd 28 2)) ∧ ((fd 28 2).type = 26) ∧ ((fd 28 2).offset = 2) ∧ ((fl 28)[3]? = some (fd 28 3)) ∧ ((fd 28 3).type = 22) ∧ ((fd 28 3).offset = 3) ∧ (tt 34 = some ⟨.slice 37, 1, 24, .slice none 0 0, false⟩) := ⟨fdo24_1, tt25, fll25, fl25_0, fdt25_0, fdo25_0, fl25_1, fdt25_1, fdo25_1, tt26, tt27, zc27, fll27, fl27_0, fdt27_0, fdo27_0, fl27_1, fdt27_1, fdo27_1, fl27_2, fdt27_2, fdo27_2, fl27_3, fdt27_3, fdo27_3, tt28, fll28, fl28_0, fdt28_0, fdo28_0, fl28_1, fdt28_1, fdo28_1, fl28_2, fdt28_2, fdo28_2, fl28_3, fdt28_3, fdo28_3, tt34⟩
theorem tyA3 : (tt 35 = some ⟨.slice 28, 1, 24, .slice none 0 0, false⟩) ∧ (tt 36 = some ⟨.slice 22, 1, 24, .slice none 0 0, false⟩) ∧ (tt 37 = some ⟨.array 3 3, 3, 24, .agg #[.int .i64 0, .int .i64 0, .int .i64 0], false⟩) ∧ ((Value.agg #[.int .i64 0, .int .i64 0, .int .i64 0]).cells.toList = [.int .i64 0, .int .i64 0, .int .i64 0]) ∧ (tt 38 = some ⟨.pointer 25, 1, 8, .pointer none, false⟩) ∧ (tt 39 = some ⟨.struct (fl 39), 3, 40, .agg #[.int .i64 0, .int .i64 0, .slice none 0 0], false⟩) ∧ ((Value.agg #[.int .i64 0, .int .i64 0, .slice none 0 0]).cells.toList = [.int .i64 0, .int .i64 0, .slice none 0 0]) ∧ ((fl 39).toList = [fd 39 0, fd 39 1, fd 39 2]) ∧ ((fl 39)[0]? = some (fd 39 0)) ∧ ((fd 39 0).type = 3) ∧ ((fd 39 0).offset = 0) ∧ ((fl 39)[1]? = some (fd 39 1)) ∧ ((fd 39 1).type = 3) ∧ ((fd 39 1).offset = 1) ∧ ((fl 39)[2]? = some (fd 39 2)) ∧ ((fd 39 2).type = 36) ∧ ((fd 39 2).offset = 2) ∧ (tt 40 = some ⟨.struct (fl 40), 3, 40, .agg #[.int .i64 0, .int .i64 0, .slice none 0 0], false⟩) ∧ ((fl 40).toList = [fd 40 0, fd 40 1, fd 40 2]) ∧ ((fl 40)[0]? = some (fd 40 0)) ∧ ((fd 40 0).type = 3) ∧ ((fd 40 0).offset = 0) ∧ ((fl 40)[1]? = some (fd 40 1)) ∧ ((fd 40 1).type = 3) ∧ ((fd 40 1).offset = 1) ∧ ((fl 40)[2]? = some (fd 40 2)) ∧ ((fd 40 2).type = 36) ∧ ((fd 40 2).offset = 2) ∧ (tt 56 = some ⟨.slice 5, 1, 24, .slice none 0 0, false⟩) ∧ (tt 60 = some ⟨.struct (fl 60), 4, 40, .agg #[.pointer none, .pointer none, .pointer none, .string ByteArray.empty], false⟩) ∧ ((Value.agg #[.pointer none, .pointer none, .pointer none, .string ByteArray.empty]).cells.toList = [.pointer none, .pointer none, .pointer none, .string ByteArray.empty]) ∧ ((fl 60).toList = [fd 60 0, fd 60 1, fd 60 2, fd 60 3]) ∧ ((fl 60)[0]? = some (fd 60 0)) ∧ ((fd 60 0).type = 17) ∧ ((fd 60 0).offset = 0) ∧ ((fl 60)[1]? = some (fd 60 1)) ∧ ((fd 60 1).type = 17) ∧ ((fd 60 1).offset = 1) ∧ ((fl 60)[2]? = some (fd 60 2)) ∧ ((fd 60 2).type = 17) := ⟨tt35, tt36, tt37, zc37, tt38, tt39, zc39, fll39, fl39_0, fdt39_0, fdo39_0, fl39_1, fdt39_1, fdo39_1, fl39_2, fdt39_2, fdo39_2, tt40, fll40, fl40_0, fdt40_0, fdo40_0, fl40_1, fdt40_1, fdo40_1, fl40_2, fdt40_2, fdo40_2, tt56, tt60, zc60, fll60, fl60_0, fdt60_0, fdo60_0, fl60_1, fdt60_1, fdo60_1, fl60_2, fdt60_2⟩
theorem tyA4 : ((fd 60 2).offset = 2) ∧ ((fl 60)[3]? = some (fd 60 3)) ∧ ((fd 60 3).type = 9) ∧ ((fd 60 3).offset = 3) ∧ (tt 61 = some ⟨.struct (fl 61), 4, 40, .agg #[.pointer none, .pointer none, .pointer none, .string ByteArray.empty], false⟩) ∧ ((fl 61).toList = [fd 61 0, fd 61 1, fd 61 2, fd 61 3]) ∧ ((fl 61)[0]? = some (fd 61 0)) ∧ ((fd 61 0).type = 17) ∧ ((fd 61 0).offset = 0) ∧ ((fl 61)[1]? = some (fd 61 1)) ∧ ((fd 61 1).type = 17) ∧ ((fd 61 1).offset = 1) ∧ ((fl 61)[2]? = some (fd 61 2)) ∧ ((fd 61 2).type = 17) ∧ ((fd 61 2).offset = 2) ∧ ((fl 61)[3]? = some (fd 61 3)) ∧ ((fd 61 3).type = 9) ∧ ((fd 61 3).offset = 3) ∧ (tt 65 = some ⟨.int .u32, 1, 4, .int .u32 0, false⟩) ∧ (tt 66 = some ⟨.int .u8, 1, 1, .int .u8 0, false⟩) ∧ (tt 67 = some ⟨.int .u8, 1, 1, .int .u8 0, false⟩) ∧ (tt 69 = some ⟨.pointer 5, 1, 8, .pointer none, false⟩) ∧ (tt 70 = some ⟨.int .i32, 1, 4, .int .i32 0, false⟩) ∧ (tt 71 = some ⟨.int .i32, 1, 4, .int .i32 0, false⟩) ∧ (tt 72 = some ⟨.struct (fl 72), 11, 48, .agg #[.int .u64 0, .int .u64 0, .int .u32 0, .int .u8 0, .int .u8 0, .int .u8 0, .int .u8 0, .nilFunc, .pointer none, .int .i32 0, .int .i32 0], false⟩) ∧ ((Value.agg #[.int .u64 0, .int .u64 0, .int .u32 0, .int .u8 0, .int .u8 0, .int .u8 0, .int .u8 0, .nilFunc, .pointer none, .int .i32 0, .int .i32 0]).cells.toList = [.int .u64 0, .int .u64 0, .int .u32 0, .int .u8 0, .int .u8 0, .int .u8 0, .int .u8 0, .nilFunc, .pointer none, .int .i32 0, .int .i32 0]) ∧ ((fl 72).toList = [fd 72 0, fd 72 1, fd 72 2, fd 72 3, fd 72 4, fd 72 5, fd 72 6, fd 72 7, fd 72 8, fd 72 9, fd 72 10]) ∧ ((fl 72)[0]? = some (fd 72 0)) ∧ ((fd 72 0).type = 12) ∧ ((fd 72 0).offset = 0) ∧ ((fl 72)[1]? = some (fd 72 1)) ∧ ((fd 72 1).type = 12) ∧ ((fd 72 1).offset = 1) ∧ ((fl 72)[2]? = some (fd 72 2)) ∧ ((fd 72 2).type = 65) ∧ ((fd 72 2).offset = 2) ∧ ((fl 72)[3]? = some (fd 72 3)) ∧ ((fd 72 3).type = 66) ∧ ((fd 72 3).offset = 3) ∧ ((fl 72)[4]? = some (fd 72 4)) := ⟨fdo60_2, fl60_3, fdt60_3, fdo60_3, tt61, fll61, fl61_0, fdt61_0, fdo61_0, fl61_1, fdt61_1, fdo61_1, fl61_2, fdt61_2, fdo61_2, fl61_3, fdt61_3, fdo61_3, tt65, tt66, tt67, tt69, tt70, tt71, tt72, zc72, fll72, fl72_0, fdt72_0, fdo72_0, fl72_1, fdt72_1, fdo72_1, fl72_2, fdt72_2, fdo72_2, fl72_3, fdt72_3, fdo72_3, fl72_4⟩
theorem tyA5 : ((fd 72 4).type = 5) ∧ ((fd 72 4).offset = 4) ∧ ((fl 72)[5]? = some (fd 72 5)) ∧ ((fd 72 5).type = 5) ∧ ((fd 72 5).offset = 5) ∧ ((fl 72)[6]? = some (fd 72 6)) ∧ ((fd 72 6).type = 67) ∧ ((fd 72 6).offset = 6) ∧ ((fl 72)[7]? = some (fd 72 7)) ∧ ((fd 72 7).type = 68) ∧ ((fd 72 7).offset = 7) ∧ ((fl 72)[8]? = some (fd 72 8)) ∧ ((fd 72 8).type = 69) ∧ ((fd 72 8).offset = 8) ∧ ((fl 72)[9]? = some (fd 72 9)) ∧ ((fd 72 9).type = 70) ∧ ((fd 72 9).offset = 9) ∧ ((fl 72)[10]? = some (fd 72 10)) ∧ ((fd 72 10).type = 71) ∧ ((fd 72 10).offset = 10) ∧ (tt 73 = some ⟨.struct (fl 73), 11, 48, .agg #[.int .u64 0, .int .u64 0, .int .u32 0, .int .u8 0, .int .u8 0, .int .u8 0, .int .u8 0, .nilFunc, .pointer none, .int .i32 0, .int .i32 0], false⟩) ∧ ((fl 73).toList = [fd 73 0, fd 73 1, fd 73 2, fd 73 3, fd 73 4, fd 73 5, fd 73 6, fd 73 7, fd 73 8, fd 73 9, fd 73 10]) ∧ ((fl 73)[0]? = some (fd 73 0)) ∧ ((fd 73 0).type = 12) ∧ ((fd 73 0).offset = 0) ∧ ((fl 73)[1]? = some (fd 73 1)) ∧ ((fd 73 1).type = 12) ∧ ((fd 73 1).offset = 1) ∧ ((fl 73)[2]? = some (fd 73 2)) ∧ ((fd 73 2).type = 65) ∧ ((fd 73 2).offset = 2) ∧ ((fl 73)[3]? = some (fd 73 3)) ∧ ((fd 73 3).type = 66) ∧ ((fd 73 3).offset = 3) ∧ ((fl 73)[4]? = some (fd 73 4)) ∧ ((fd 73 4).type = 5) ∧ ((fd 73 4).offset = 4) ∧ ((fl 73)[5]? = some (fd 73 5)) ∧ ((fd 73 5).type = 5) ∧ ((fd 73 5).offset = 5) := ⟨fdt72_4, fdo72_4, fl72_5, fdt72_5, fdo72_5, fl72_6, fdt72_6, fdo72_6, fl72_7, fdt72_7, fdo72_7, fl72_8, fdt72_8, fdo72_8, fl72_9, fdt72_9, fdo72_9, fl72_10, fdt72_10, fdo72_10, tt73, fll73, fl73_0, fdt73_0, fdo73_0, fl73_1, fdt73_1, fdo73_1, fl73_2, fdt73_2, fdo73_2, fl73_3, fdt73_3, fdo73_3, fl73_4, fdt73_4, fdo73_4, fl73_5, fdt73_5, fdo73_5⟩
theorem tyA6 : ((fl 73)[6]? = some (fd 73 6)) ∧ ((fd 73 6).type = 67) ∧ ((fd 73 6).offset = 6) ∧ ((fl 73)[7]? = some (fd 73 7)) ∧ ((fd 73 7).type = 68) ∧ ((fd 73 7).offset = 7) ∧ ((fl 73)[8]? = some (fd 73 8)) ∧ ((fd 73 8).type = 69) ∧ ((fd 73 8).offset = 8) ∧ ((fl 73)[9]? = some (fd 73 9)) ∧ ((fd 73 9).type = 70) ∧ ((fd 73 9).offset = 9) ∧ ((fl 73)[10]? = some (fd 73 10)) ∧ ((fd 73 10).type = 71) ∧ ((fd 73 10).offset = 10) := ⟨fl73_6, fdt73_6, fdo73_6, fl73_7, fdt73_7, fdo73_7, fl73_8, fdt73_8, fdo73_8, fl73_9, fdt73_9, fdo73_9, fl73_10, fdt73_10, fdo73_10⟩
attribute [irreducible] tt fl fd
end Go.Proofs.Ytghpdmnkihkklaa
