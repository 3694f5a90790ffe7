/-
  DERIVED by gen_ty.py: what the program says of its types, a lemma each.
-/
import Derived.Test.YtfdkihapckfjhaaChecked
import Derived.Test.YtfdkihapckfjhaaAb15
import Derived.KernelRfl
namespace Go.Proofs.Ytfdkihapckfjhaa
open Go.Ab
set_option linter.unusedSimpArgs false

noncomputable def tt : TypeId → Option TI := ttOf Try.prog
theorem ttok : TTok Try.prog tt := ttOf_ok _
noncomputable def fl (T : TypeId) : Array Field := flOf Try.prog T
noncomputable def fd (T : TypeId) (k : Nat) : Field := (fl T).getD k default

theorem tt2 : tt 2 = some ⟨.int .i64, 1, 8, .int .i64 0, false⟩ := by kernel_rfl
theorem tt3 : tt 3 = some ⟨.int .i64, 1, 8, .int .i64 0, false⟩ := by kernel_rfl
theorem tt4 : tt 4 = some ⟨.bool, 1, 1, .bool false, false⟩ := by kernel_rfl
theorem tt5 : tt 5 = some ⟨.int .u8, 1, 1, .int .u8 0, false⟩ := by kernel_rfl
theorem tt6 : tt 6 = some ⟨.int .u8, 1, 1, .int .u8 0, false⟩ := by kernel_rfl
theorem tt7 : tt 7 = some ⟨.struct (fl 7), 4, 24, .agg #[.int .i64 0, .int .i64 0, .bool false, .int .u8 0], false⟩ := by kernel_rfl
theorem zc7 : (Value.agg #[.int .i64 0, .int .i64 0, .bool false, .int .u8 0]).cells.toList = [.int .i64 0, .int .i64 0, .bool false, .int .u8 0] := by kernel_rfl
theorem fll7 : (fl 7).toList = [fd 7 0, fd 7 1, fd 7 2, fd 7 3] := by kernel_rfl
theorem fl7_0 : (fl 7)[0]? = some (fd 7 0) := by kernel_rfl
theorem fdt7_0 : (fd 7 0).type = 2 := by kernel_rfl
theorem fdo7_0 : (fd 7 0).offset = 0 := by kernel_rfl
theorem fl7_1 : (fl 7)[1]? = some (fd 7 1) := by kernel_rfl
theorem fdt7_1 : (fd 7 1).type = 3 := by kernel_rfl
theorem fdo7_1 : (fd 7 1).offset = 1 := by kernel_rfl
theorem fl7_2 : (fl 7)[2]? = some (fd 7 2) := by kernel_rfl
theorem fdt7_2 : (fd 7 2).type = 4 := by kernel_rfl
theorem fdo7_2 : (fd 7 2).offset = 2 := by kernel_rfl
theorem fl7_3 : (fl 7)[3]? = some (fd 7 3) := by kernel_rfl
theorem fdt7_3 : (fd 7 3).type = 6 := by kernel_rfl
theorem fdo7_3 : (fd 7 3).offset = 3 := by kernel_rfl
theorem tt8 : tt 8 = some ⟨.struct (fl 8), 4, 24, .agg #[.int .i64 0, .int .i64 0, .bool false, .int .u8 0], false⟩ := by kernel_rfl
theorem fll8 : (fl 8).toList = [fd 8 0, fd 8 1, fd 8 2, fd 8 3] := by kernel_rfl
theorem fl8_0 : (fl 8)[0]? = some (fd 8 0) := by kernel_rfl
theorem fdt8_0 : (fd 8 0).type = 2 := by kernel_rfl
theorem fdo8_0 : (fd 8 0).offset = 0 := by kernel_rfl
theorem fl8_1 : (fl 8)[1]? = some (fd 8 1) := by kernel_rfl
theorem fdt8_1 : (fd 8 1).type = 3 := by kernel_rfl
theorem fdo8_1 : (fd 8 1).offset = 1 := by kernel_rfl
theorem fl8_2 : (fl 8)[2]? = some (fd 8 2) := by kernel_rfl
theorem fdt8_2 : (fd 8 2).type = 4 := by kernel_rfl
theorem fdo8_2 : (fd 8 2).offset = 2 := by kernel_rfl
theorem fl8_3 : (fl 8)[3]? = some (fd 8 3) := by kernel_rfl
theorem fdt8_3 : (fd 8 3).type = 6 := by kernel_rfl
theorem fdo8_3 : (fd 8 3).offset = 3 := by kernel_rfl
theorem tt9 : tt 9 = some ⟨.string, 1, 16, .string ByteArray.empty, false⟩ := by kernel_rfl
theorem tt10 : tt 10 = some ⟨.string, 1, 16, .string ByteArray.empty, false⟩ := by kernel_rfl
theorem tt11 : tt 11 = some ⟨.string, 1, 16, .string ByteArray.empty, false⟩ := by kernel_rfl
theorem tt12 : tt 12 = some ⟨.int .u64, 1, 8, .int .u64 0, false⟩ := by kernel_rfl
theorem tt13 : tt 13 = some ⟨.struct (fl 13), 2, 24, .agg #[.string ByteArray.empty, .int .u64 0], false⟩ := by kernel_rfl
theorem zc13 : (Value.agg #[.string ByteArray.empty, .int .u64 0]).cells.toList = [.string ByteArray.empty, .int .u64 0] := by kernel_rfl
theorem fll13 : (fl 13).toList = [fd 13 0, fd 13 1] := by kernel_rfl
theorem fl13_0 : (fl 13)[0]? = some (fd 13 0) := by kernel_rfl
theorem fdt13_0 : (fd 13 0).type = 9 := by kernel_rfl
theorem fdo13_0 : (fd 13 0).offset = 0 := by kernel_rfl
theorem fl13_1 : (fl 13)[1]? = some (fd 13 1) := by kernel_rfl
theorem fdt13_1 : (fd 13 1).type = 12 := by kernel_rfl
theorem fdo13_1 : (fd 13 1).offset = 1 := by kernel_rfl
theorem tt14 : tt 14 = some ⟨.struct (fl 14), 2, 24, .agg #[.string ByteArray.empty, .int .u64 0], false⟩ := by kernel_rfl
theorem fll14 : (fl 14).toList = [fd 14 0, fd 14 1] := by kernel_rfl
theorem fl14_0 : (fl 14)[0]? = some (fd 14 0) := by kernel_rfl
theorem fdt14_0 : (fd 14 0).type = 9 := by kernel_rfl
theorem fdo14_0 : (fd 14 0).offset = 0 := by kernel_rfl
theorem fl14_1 : (fl 14)[1]? = some (fd 14 1) := by kernel_rfl
theorem fdt14_1 : (fd 14 1).type = 12 := by kernel_rfl
theorem fdo14_1 : (fd 14 1).offset = 1 := by kernel_rfl
theorem tt15 : tt 15 = some ⟨.pointer 86, 1, 8, .pointer none, false⟩ := by kernel_rfl
theorem tt16 : tt 16 = some ⟨.pointer 89, 1, 8, .pointer none, false⟩ := by kernel_rfl
theorem tt17 : tt 17 = some ⟨.pointer 97, 1, 8, .pointer none, false⟩ := by kernel_rfl
theorem tt18 : tt 18 = some ⟨.struct (fl 18), 1, 8, .agg #[.pointer none], false⟩ := by kernel_rfl
theorem zc18 : (Value.agg #[.pointer none]).cells.toList = [.pointer none] := by kernel_rfl
theorem fll18 : (fl 18).toList = [fd 18 0] := by kernel_rfl
theorem fl18_0 : (fl 18)[0]? = some (fd 18 0) := by kernel_rfl
theorem fdt18_0 : (fd 18 0).type = 17 := by kernel_rfl
theorem fdo18_0 : (fd 18 0).offset = 0 := by kernel_rfl
theorem tt19 : tt 19 = some ⟨.struct (fl 19), 1, 8, .agg #[.pointer none], false⟩ := by kernel_rfl
theorem fll19 : (fl 19).toList = [fd 19 0] := by kernel_rfl
theorem fl19_0 : (fl 19)[0]? = some (fd 19 0) := by kernel_rfl
theorem fdt19_0 : (fd 19 0).type = 17 := by kernel_rfl
theorem fdo19_0 : (fd 19 0).offset = 0 := by kernel_rfl
theorem tt21 : tt 21 = some ⟨.int .i32, 1, 4, .int .i32 0, false⟩ := by kernel_rfl
theorem tt22 : tt 22 = some ⟨.slice 5, 1, 24, .slice none 0 0, false⟩ := by kernel_rfl
theorem tt23 : tt 23 = some ⟨.int .u32, 1, 4, .int .u32 0, false⟩ := by kernel_rfl
theorem tt32 : tt 32 = some ⟨.array 4 5, 4, 4, .agg #[.int .u8 0, .int .u8 0, .int .u8 0, .int .u8 0], false⟩ := by kernel_rfl
theorem zc32 : (Value.agg #[.int .u8 0, .int .u8 0, .int .u8 0, .int .u8 0]).cells.toList = [.int .u8 0, .int .u8 0, .int .u8 0, .int .u8 0] := by kernel_rfl
theorem tt37 : tt 37 = some ⟨.slice 3, 1, 24, .slice none 0 0, false⟩ := by kernel_rfl
theorem tt38 : tt 38 = some ⟨.pointer 78, 1, 8, .pointer none, false⟩ := by kernel_rfl
theorem tt40 : tt 40 = some ⟨.slice 43, 1, 24, .slice none 0 0, false⟩ := by kernel_rfl
theorem tt42 : tt 42 = some ⟨.struct (fl 42), 2, 32, .agg #[.int .i64 0, .slice none 0 0], false⟩ := by kernel_rfl
theorem zc42 : (Value.agg #[.int .i64 0, .slice none 0 0]).cells.toList = [.int .i64 0, .slice none 0 0] := by kernel_rfl
theorem fll42 : (fl 42).toList = [fd 42 0, fd 42 1] := by kernel_rfl
theorem fl42_0 : (fl 42)[0]? = some (fd 42 0) := by kernel_rfl
theorem fdt42_0 : (fd 42 0).type = 3 := by kernel_rfl
theorem fdo42_0 : (fd 42 0).offset = 0 := by kernel_rfl
theorem fl42_1 : (fl 42)[1]? = some (fd 42 1) := by kernel_rfl
theorem fdt42_1 : (fd 42 1).type = 22 := by kernel_rfl
theorem fdo42_1 : (fd 42 1).offset = 1 := by kernel_rfl
theorem tt43 : tt 43 = some ⟨.struct (fl 43), 2, 32, .agg #[.int .i64 0, .slice none 0 0], false⟩ := by kernel_rfl
theorem fll43 : (fl 43).toList = [fd 43 0, fd 43 1] := by kernel_rfl
theorem fl43_0 : (fl 43)[0]? = some (fd 43 0) := by kernel_rfl
theorem fdt43_0 : (fd 43 0).type = 3 := by kernel_rfl
theorem fdo43_0 : (fd 43 0).offset = 0 := by kernel_rfl
theorem fl43_1 : (fl 43)[1]? = some (fd 43 1) := by kernel_rfl
theorem fdt43_1 : (fd 43 1).type = 22 := by kernel_rfl
theorem fdo43_1 : (fd 43 1).offset = 1 := by kernel_rfl
theorem tt47 : tt 47 = some ⟨.struct (fl 47), 3, 24, .agg #[.int .i64 0, .int .i64 0, .int .i64 0], true⟩ := by kernel_rfl
theorem zc47 : (Value.agg #[.int .i64 0, .int .i64 0, .int .i64 0]).cells.toList = [.int .i64 0, .int .i64 0, .int .i64 0] := by kernel_rfl
theorem fll47 : (fl 47).toList = [fd 47 0, fd 47 1, fd 47 2] := by kernel_rfl
theorem fl47_0 : (fl 47)[0]? = some (fd 47 0) := by kernel_rfl
theorem fdt47_0 : (fd 47 0).type = 3 := by kernel_rfl
theorem fdo47_0 : (fd 47 0).offset = 0 := by kernel_rfl
theorem fl47_1 : (fl 47)[1]? = some (fd 47 1) := by kernel_rfl
theorem fdt47_1 : (fd 47 1).type = 3 := by kernel_rfl
theorem fdo47_1 : (fd 47 1).offset = 1 := by kernel_rfl
theorem fl47_2 : (fl 47)[2]? = some (fd 47 2) := by kernel_rfl
theorem fdt47_2 : (fd 47 2).type = 3 := by kernel_rfl
theorem fdo47_2 : (fd 47 2).offset = 2 := by kernel_rfl
theorem tt48 : tt 48 = some ⟨.struct (fl 48), 3, 24, .agg #[.int .i64 0, .int .i64 0, .int .i64 0], true⟩ := by kernel_rfl
theorem fll48 : (fl 48).toList = [fd 48 0, fd 48 1, fd 48 2] := by kernel_rfl
theorem fl48_0 : (fl 48)[0]? = some (fd 48 0) := by kernel_rfl
theorem fdt48_0 : (fd 48 0).type = 3 := by kernel_rfl
theorem fdo48_0 : (fd 48 0).offset = 0 := by kernel_rfl
theorem fl48_1 : (fl 48)[1]? = some (fd 48 1) := by kernel_rfl
theorem fdt48_1 : (fd 48 1).type = 3 := by kernel_rfl
theorem fdo48_1 : (fd 48 1).offset = 1 := by kernel_rfl
theorem fl48_2 : (fl 48)[2]? = some (fd 48 2) := by kernel_rfl
theorem fdt48_2 : (fd 48 2).type = 3 := by kernel_rfl
theorem fdo48_2 : (fd 48 2).offset = 2 := by kernel_rfl
theorem tt49 : tt 49 = some ⟨.array 4 3, 4, 32, .agg #[.int .i64 0, .int .i64 0, .int .i64 0, .int .i64 0], false⟩ := by kernel_rfl
theorem zc49 : (Value.agg #[.int .i64 0, .int .i64 0, .int .i64 0, .int .i64 0]).cells.toList = [.int .i64 0, .int .i64 0, .int .i64 0, .int .i64 0] := by kernel_rfl
theorem tt57 : tt 57 = some ⟨.int .u64, 1, 8, .int .u64 0, false⟩ := by kernel_rfl
theorem tt58 : tt 58 = some ⟨.int .i64, 1, 8, .int .i64 0, false⟩ := by kernel_rfl
theorem tt63 : tt 63 = some ⟨.slice 48, 1, 24, .slice none 0 0, false⟩ := by kernel_rfl
theorem tt66 : tt 66 = some ⟨.slice 22, 1, 24, .slice none 0 0, false⟩ := by kernel_rfl
theorem tt70 : tt 70 = some ⟨.slice 72, 1, 24, .slice none 0 0, false⟩ := by kernel_rfl
theorem tt71 : tt 71 = some ⟨.struct (fl 71), 3, 40, .agg #[.int .i64 0, .slice none 0 0, .int .i64 0], false⟩ := by kernel_rfl
theorem zc71 : (Value.agg #[.int .i64 0, .slice none 0 0, .int .i64 0]).cells.toList = [.int .i64 0, .slice none 0 0, .int .i64 0] := by kernel_rfl
theorem fll71 : (fl 71).toList = [fd 71 0, fd 71 1, fd 71 2] := by kernel_rfl
theorem fl71_0 : (fl 71)[0]? = some (fd 71 0) := by kernel_rfl
theorem fdt71_0 : (fd 71 0).type = 3 := by kernel_rfl
theorem fdo71_0 : (fd 71 0).offset = 0 := by kernel_rfl
theorem fl71_1 : (fl 71)[1]? = some (fd 71 1) := by kernel_rfl
theorem fdt71_1 : (fd 71 1).type = 22 := by kernel_rfl
theorem fdo71_1 : (fd 71 1).offset = 1 := by kernel_rfl
theorem fl71_2 : (fl 71)[2]? = some (fd 71 2) := by kernel_rfl
theorem fdt71_2 : (fd 71 2).type = 3 := by kernel_rfl
theorem fdo71_2 : (fd 71 2).offset = 2 := by kernel_rfl
theorem tt72 : tt 72 = some ⟨.struct (fl 72), 3, 40, .agg #[.int .i64 0, .slice none 0 0, .int .i64 0], false⟩ := by kernel_rfl
theorem fll72 : (fl 72).toList = [fd 72 0, fd 72 1, fd 72 2] := by kernel_rfl
theorem fl72_0 : (fl 72)[0]? = some (fd 72 0) := by kernel_rfl
theorem fdt72_0 : (fd 72 0).type = 3 := by kernel_rfl
theorem fdo72_0 : (fd 72 0).offset = 0 := by kernel_rfl
theorem fl72_1 : (fl 72)[1]? = some (fd 72 1) := by kernel_rfl
theorem fdt72_1 : (fd 72 1).type = 22 := by kernel_rfl
theorem fdo72_1 : (fd 72 1).offset = 1 := by kernel_rfl
theorem fl72_2 : (fl 72)[2]? = some (fd 72 2) := by kernel_rfl
theorem fdt72_2 : (fd 72 2).type = 3 := by kernel_rfl
theorem fdo72_2 : (fd 72 2).offset = 2 := by kernel_rfl
theorem tt77 : tt 77 = some ⟨.struct (fl 77), 2, 32, .agg #[.slice none 0 0, .int .i64 0], false⟩ := by kernel_rfl
theorem zc77 : (Value.agg #[.slice none 0 0, .int .i64 0]).cells.toList = [.slice none 0 0, .int .i64 0] := by kernel_rfl
theorem fll77 : (fl 77).toList = [fd 77 0, fd 77 1] := by kernel_rfl
theorem fl77_0 : (fl 77)[0]? = some (fd 77 0) := by kernel_rfl
theorem fdt77_0 : (fd 77 0).type = 22 := by kernel_rfl
theorem fdo77_0 : (fd 77 0).offset = 0 := by kernel_rfl
theorem fl77_1 : (fl 77)[1]? = some (fd 77 1) := by kernel_rfl
theorem fdt77_1 : (fd 77 1).type = 3 := by kernel_rfl
theorem fdo77_1 : (fd 77 1).offset = 1 := by kernel_rfl
theorem tt78 : tt 78 = some ⟨.struct (fl 78), 2, 32, .agg #[.slice none 0 0, .int .i64 0], false⟩ := by kernel_rfl
theorem fll78 : (fl 78).toList = [fd 78 0, fd 78 1] := by kernel_rfl
theorem fl78_0 : (fl 78)[0]? = some (fd 78 0) := by kernel_rfl
theorem fdt78_0 : (fd 78 0).type = 22 := by kernel_rfl
theorem fdo78_0 : (fd 78 0).offset = 0 := by kernel_rfl
theorem fl78_1 : (fl 78)[1]? = some (fd 78 1) := by kernel_rfl
theorem fdt78_1 : (fd 78 1).type = 3 := by kernel_rfl
theorem fdo78_1 : (fd 78 1).offset = 1 := by kernel_rfl
theorem tt81 : tt 81 = some ⟨.array 3 3, 3, 24, .agg #[.int .i64 0, .int .i64 0, .int .i64 0], false⟩ := by kernel_rfl
theorem tt85 : tt 85 = some ⟨.struct (fl 85), 4, 40, .agg #[.pointer none, .pointer none, .pointer none, .string ByteArray.empty], false⟩ := by kernel_rfl
theorem zc85 : (Value.agg #[.pointer none, .pointer none, .pointer none, .string ByteArray.empty]).cells.toList = [.pointer none, .pointer none, .pointer none, .string ByteArray.empty] := by kernel_rfl
theorem fll85 : (fl 85).toList = [fd 85 0, fd 85 1, fd 85 2, fd 85 3] := by kernel_rfl
theorem fl85_0 : (fl 85)[0]? = some (fd 85 0) := by kernel_rfl
theorem fdt85_0 : (fd 85 0).type = 17 := by kernel_rfl
theorem fdo85_0 : (fd 85 0).offset = 0 := by kernel_rfl
theorem fl85_1 : (fl 85)[1]? = some (fd 85 1) := by kernel_rfl
theorem fdt85_1 : (fd 85 1).type = 17 := by kernel_rfl
theorem fdo85_1 : (fd 85 1).offset = 1 := by kernel_rfl
theorem fl85_2 : (fl 85)[2]? = some (fd 85 2) := by kernel_rfl
theorem fdt85_2 : (fd 85 2).type = 17 := by kernel_rfl
theorem fdo85_2 : (fd 85 2).offset = 2 := by kernel_rfl
theorem fl85_3 : (fl 85)[3]? = some (fd 85 3) := by kernel_rfl
theorem fdt85_3 : (fd 85 3).type = 9 := by kernel_rfl
theorem fdo85_3 : (fd 85 3).offset = 3 := by kernel_rfl
theorem tt86 : tt 86 = some ⟨.struct (fl 86), 4, 40, .agg #[.pointer none, .pointer none, .pointer none, .string ByteArray.empty], false⟩ := by kernel_rfl
theorem fll86 : (fl 86).toList = [fd 86 0, fd 86 1, fd 86 2, fd 86 3] := by kernel_rfl
theorem fl86_0 : (fl 86)[0]? = some (fd 86 0) := by kernel_rfl
theorem fdt86_0 : (fd 86 0).type = 17 := by kernel_rfl
theorem fdo86_0 : (fd 86 0).offset = 0 := by kernel_rfl
theorem fl86_1 : (fl 86)[1]? = some (fd 86 1) := by kernel_rfl
theorem fdt86_1 : (fd 86 1).type = 17 := by kernel_rfl
theorem fdo86_1 : (fd 86 1).offset = 1 := by kernel_rfl
theorem fl86_2 : (fl 86)[2]? = some (fd 86 2) := by kernel_rfl
theorem fdt86_2 : (fd 86 2).type = 17 := by kernel_rfl
theorem fdo86_2 : (fd 86 2).offset = 2 := by kernel_rfl
theorem fl86_3 : (fl 86)[3]? = some (fd 86 3) := by kernel_rfl
theorem fdt86_3 : (fd 86 3).type = 9 := by kernel_rfl
theorem fdo86_3 : (fd 86 3).offset = 3 := by kernel_rfl
theorem tt90 : tt 90 = some ⟨.int .u8, 1, 1, .int .u8 0, false⟩ := by kernel_rfl
theorem tt91 : tt 91 = some ⟨.int .u8, 1, 1, .int .u8 0, false⟩ := by kernel_rfl
theorem tt93 : tt 93 = some ⟨.pointer 5, 1, 8, .pointer none, false⟩ := by kernel_rfl
theorem tt94 : tt 94 = some ⟨.int .i32, 1, 4, .int .i32 0, false⟩ := by kernel_rfl
theorem tt95 : tt 95 = some ⟨.int .i32, 1, 4, .int .i32 0, false⟩ := by kernel_rfl
theorem tt96 : tt 96 = some ⟨.struct (fl 96), 11, 48, .agg #[.int .u64 0, .int .u64 0, .int .u32 0, .int .u8 0, .int .u8 0, .int .u8 0, .int .u8 0, .nilFunc, .pointer none, .int .i32 0, .int .i32 0], false⟩ := by kernel_rfl
theorem zc96 : (Value.agg #[.int .u64 0, .int .u64 0, .int .u32 0, .int .u8 0, .int .u8 0, .int .u8 0, .int .u8 0, .nilFunc, .pointer none, .int .i32 0, .int .i32 0]).cells.toList = [.int .u64 0, .int .u64 0, .int .u32 0, .int .u8 0, .int .u8 0, .int .u8 0, .int .u8 0, .nilFunc, .pointer none, .int .i32 0, .int .i32 0] := by kernel_rfl
theorem fll96 : (fl 96).toList = [fd 96 0, fd 96 1, fd 96 2, fd 96 3, fd 96 4, fd 96 5, fd 96 6, fd 96 7, fd 96 8, fd 96 9, fd 96 10] := by kernel_rfl
theorem fl96_0 : (fl 96)[0]? = some (fd 96 0) := by kernel_rfl
theorem fdt96_0 : (fd 96 0).type = 12 := by kernel_rfl
theorem fdo96_0 : (fd 96 0).offset = 0 := by kernel_rfl
theorem fl96_1 : (fl 96)[1]? = some (fd 96 1) := by kernel_rfl
theorem fdt96_1 : (fd 96 1).type = 12 := by kernel_rfl
theorem fdo96_1 : (fd 96 1).offset = 1 := by kernel_rfl
theorem fl96_2 : (fl 96)[2]? = some (fd 96 2) := by kernel_rfl
theorem fdt96_2 : (fd 96 2).type = 23 := by kernel_rfl
theorem fdo96_2 : (fd 96 2).offset = 2 := by kernel_rfl
theorem fl96_3 : (fl 96)[3]? = some (fd 96 3) := by kernel_rfl
theorem fdt96_3 : (fd 96 3).type = 90 := by kernel_rfl
theorem fdo96_3 : (fd 96 3).offset = 3 := by kernel_rfl
theorem fl96_4 : (fl 96)[4]? = some (fd 96 4) := by kernel_rfl
theorem fdt96_4 : (fd 96 4).type = 5 := by kernel_rfl
theorem fdo96_4 : (fd 96 4).offset = 4 := by kernel_rfl
theorem fl96_5 : (fl 96)[5]? = some (fd 96 5) := by kernel_rfl
theorem fdt96_5 : (fd 96 5).type = 5 := by kernel_rfl
theorem fdo96_5 : (fd 96 5).offset = 5 := by kernel_rfl
theorem fl96_6 : (fl 96)[6]? = some (fd 96 6) := by kernel_rfl
theorem fdt96_6 : (fd 96 6).type = 91 := by kernel_rfl
theorem fdo96_6 : (fd 96 6).offset = 6 := by kernel_rfl
theorem fl96_7 : (fl 96)[7]? = some (fd 96 7) := by kernel_rfl
theorem fdt96_7 : (fd 96 7).type = 92 := by kernel_rfl
theorem fdo96_7 : (fd 96 7).offset = 7 := by kernel_rfl
theorem fl96_8 : (fl 96)[8]? = some (fd 96 8) := by kernel_rfl
theorem fdt96_8 : (fd 96 8).type = 93 := by kernel_rfl
theorem fdo96_8 : (fd 96 8).offset = 8 := by kernel_rfl
theorem fl96_9 : (fl 96)[9]? = some (fd 96 9) := by kernel_rfl
theorem fdt96_9 : (fd 96 9).type = 94 := by kernel_rfl
theorem fdo96_9 : (fd 96 9).offset = 9 := by kernel_rfl
theorem fl96_10 : (fl 96)[10]? = some (fd 96 10) := by kernel_rfl
theorem fdt96_10 : (fd 96 10).type = 95 := by kernel_rfl
theorem fdo96_10 : (fd 96 10).offset = 10 := by kernel_rfl
theorem tt97 : tt 97 = some ⟨.struct (fl 97), 11, 48, .agg #[.int .u64 0, .int .u64 0, .int .u32 0, .int .u8 0, .int .u8 0, .int .u8 0, .int .u8 0, .nilFunc, .pointer none, .int .i32 0, .int .i32 0], false⟩ := by kernel_rfl
theorem fll97 : (fl 97).toList = [fd 97 0, fd 97 1, fd 97 2, fd 97 3, fd 97 4, fd 97 5, fd 97 6, fd 97 7, fd 97 8, fd 97 9, fd 97 10] := by kernel_rfl
theorem fl97_0 : (fl 97)[0]? = some (fd 97 0) := by kernel_rfl
theorem fdt97_0 : (fd 97 0).type = 12 := by kernel_rfl
theorem fdo97_0 : (fd 97 0).offset = 0 := by kernel_rfl
theorem fl97_1 : (fl 97)[1]? = some (fd 97 1) := by kernel_rfl
theorem fdt97_1 : (fd 97 1).type = 12 := by kernel_rfl
theorem fdo97_1 : (fd 97 1).offset = 1 := by kernel_rfl
theorem fl97_2 : (fl 97)[2]? = some (fd 97 2) := by kernel_rfl
theorem fdt97_2 : (fd 97 2).type = 23 := by kernel_rfl
theorem fdo97_2 : (fd 97 2).offset = 2 := by kernel_rfl
theorem fl97_3 : (fl 97)[3]? = some (fd 97 3) := by kernel_rfl
theorem fdt97_3 : (fd 97 3).type = 90 := by kernel_rfl
theorem fdo97_3 : (fd 97 3).offset = 3 := by kernel_rfl
theorem fl97_4 : (fl 97)[4]? = some (fd 97 4) := by kernel_rfl
theorem fdt97_4 : (fd 97 4).type = 5 := by kernel_rfl
theorem fdo97_4 : (fd 97 4).offset = 4 := by kernel_rfl
theorem fl97_5 : (fl 97)[5]? = some (fd 97 5) := by kernel_rfl
theorem fdt97_5 : (fd 97 5).type = 5 := by kernel_rfl
theorem fdo97_5 : (fd 97 5).offset = 5 := by kernel_rfl
theorem fl97_6 : (fl 97)[6]? = some (fd 97 6) := by kernel_rfl
theorem fdt97_6 : (fd 97 6).type = 91 := by kernel_rfl
theorem fdo97_6 : (fd 97 6).offset = 6 := by kernel_rfl
theorem fl97_7 : (fl 97)[7]? = some (fd 97 7) := by kernel_rfl
theorem fdt97_7 : (fd 97 7).type = 92 := by kernel_rfl
theorem fdo97_7 : (fd 97 7).offset = 7 := by kernel_rfl
theorem fl97_8 : (fl 97)[8]? = some (fd 97 8) := by kernel_rfl
theorem fdt97_8 : (fd 97 8).type = 93 := by kernel_rfl
theorem fdo97_8 : (fd 97 8).offset = 8 := by kernel_rfl
theorem fl97_9 : (fl 97)[9]? = some (fd 97 9) := by kernel_rfl
theorem fdt97_9 : (fd 97 9).type = 94 := by kernel_rfl
theorem fdo97_9 : (fd 97 9).offset = 9 := by kernel_rfl
theorem fl97_10 : (fl 97)[10]? = some (fd 97 10) := by kernel_rfl
theorem fdt97_10 : (fd 97 10).type = 95 := by kernel_rfl
theorem fdo97_10 : (fd 97 10).offset = 10 := by kernel_rfl
theorem fnok3 : FnOk Try.prog 3 := ⟨_, Try.func3, by kernel_rfl, by kernel_rfl⟩
theorem fnok4 : FnOk Try.prog 4 := ⟨_, Try.func4, by kernel_rfl, by kernel_rfl⟩
theorem fnok5 : FnOk Try.prog 5 := ⟨_, Try.func5, by kernel_rfl, by kernel_rfl⟩
theorem fnok6 : FnOk Try.prog 6 := ⟨_, Try.func6, by kernel_rfl, by kernel_rfl⟩
theorem fnok7 : FnOk Try.prog 7 := ⟨_, Try.func7, by kernel_rfl, by kernel_rfl⟩
theorem fnok8 : FnOk Try.prog 8 := ⟨_, Try.func8, by kernel_rfl, by kernel_rfl⟩
theorem fnok9 : FnOk Try.prog 9 := ⟨_, Try.func9, by kernel_rfl, by kernel_rfl⟩
theorem fnok10 : FnOk Try.prog 10 := ⟨_, Try.func10, by kernel_rfl, by kernel_rfl⟩
theorem fnok11 : FnOk Try.prog 11 := ⟨_, Try.func11, by kernel_rfl, by kernel_rfl⟩
theorem fnok12 : FnOk Try.prog 12 := ⟨_, Try.func12, by kernel_rfl, by kernel_rfl⟩
theorem fnok13 : FnOk Try.prog 13 := ⟨_, Try.func13, by kernel_rfl, by kernel_rfl⟩
theorem fnok14 : FnOk Try.prog 14 := ⟨_, Try.func14, by kernel_rfl, by kernel_rfl⟩
theorem fnok15 : FnOk Try.prog 15 := ⟨_, Try.func15, by kernel_rfl, by kernel_rfl⟩
theorem fnok16 : FnOk Try.prog 16 := ⟨_, Try.func16, by kernel_rfl, by kernel_rfl⟩
theorem fnok17 : FnOk Try.prog 17 := ⟨_, Try.func17, by kernel_rfl, by kernel_rfl⟩
theorem fnok18 : FnOk Try.prog 18 := ⟨_, Try.func18, by kernel_rfl, by kernel_rfl⟩
theorem fnok19 : FnOk Try.prog 19 := ⟨_, Try.func19, by kernel_rfl, by kernel_rfl⟩
theorem fnok20 : FnOk Try.prog 20 := ⟨_, Try.func20, by kernel_rfl, by kernel_rfl⟩
theorem fnok21 : FnOk Try.prog 21 := ⟨_, Try.func21, by kernel_rfl, by kernel_rfl⟩
theorem fnok22 : FnOk Try.prog 22 := ⟨_, Try.func22, by kernel_rfl, by kernel_rfl⟩
theorem fnok23 : FnOk Try.prog 23 := ⟨_, Try.func23, by kernel_rfl, by kernel_rfl⟩
theorem fnok24 : FnOk Try.prog 24 := ⟨_, Try.func24, by kernel_rfl, by kernel_rfl⟩
theorem fnok25 : FnOk Try.prog 25 := ⟨_, Try.func25, by kernel_rfl, by kernel_rfl⟩
theorem fnok26 : FnOk Try.prog 26 := ⟨_, Try.func26, by kernel_rfl, by kernel_rfl⟩
theorem fnok27 : FnOk Try.prog 27 := ⟨_, Try.func27, by kernel_rfl, by kernel_rfl⟩
theorem fnok28 : FnOk Try.prog 28 := ⟨_, Try.func28, by kernel_rfl, by kernel_rfl⟩
theorem fnok29 : FnOk Try.prog 29 := ⟨_, Try.func29, by kernel_rfl, by kernel_rfl⟩
theorem fnok30 : FnOk Try.prog 30 := ⟨_, Try.func30, by kernel_rfl, by kernel_rfl⟩
theorem fnok31 : FnOk Try.prog 31 := ⟨_, Try.func31, by kernel_rfl, by kernel_rfl⟩
theorem fnok32 : FnOk Try.prog 32 := ⟨_, Try.func32, by kernel_rfl, by kernel_rfl⟩
theorem fnok33 : FnOk Try.prog 33 := ⟨_, Try.func33, by kernel_rfl, by kernel_rfl⟩
theorem fnok34 : FnOk Try.prog 34 := ⟨_, Try.func34, by kernel_rfl, by kernel_rfl⟩
theorem fnok35 : FnOk Try.prog 35 := ⟨_, Try.func35, by kernel_rfl, by kernel_rfl⟩
theorem fnok36 : FnOk Try.prog 36 := ⟨_, Try.func36, by kernel_rfl, by kernel_rfl⟩
theorem fnok37 : FnOk Try.prog 37 := ⟨_, Try.func37, by kernel_rfl, by kernel_rfl⟩
theorem fnok38 : FnOk Try.prog 38 := ⟨_, Try.func38, by kernel_rfl, by kernel_rfl⟩
theorem fnok39 : FnOk Try.prog 39 := ⟨_, Try.func39, by kernel_rfl, by kernel_rfl⟩
theorem fnok40 : FnOk Try.prog 40 := ⟨_, Try.func40, by kernel_rfl, by kernel_rfl⟩
theorem fnok41 : FnOk Try.prog 41 := ⟨_, Try.func41, by kernel_rfl, by kernel_rfl⟩
theorem fnok42 : FnOk Try.prog 42 := ⟨_, Try.func42, by kernel_rfl, by kernel_rfl⟩
theorem fnok43 : FnOk Try.prog 43 := ⟨_, Try.func43, by kernel_rfl, by kernel_rfl⟩
theorem fnok44 : FnOk Try.prog 44 := ⟨_, Try.func44, by kernel_rfl, by kernel_rfl⟩
theorem fnok45 : FnOk Try.prog 45 := ⟨_, Try.func45, by kernel_rfl, by kernel_rfl⟩
theorem tyA0 : (tt 2 = some ⟨.int .i64, 1, 8, .int .i64 0, false⟩) ∧ (tt 3 = some ⟨.int .i64, 1, 8, .int .i64 0, false⟩) ∧ (tt 4 = some ⟨.bool, 1, 1, .bool false, false⟩) ∧ (tt 5 = some ⟨.int .u8, 1, 1, .int .u8 0, false⟩) ∧ (tt 6 = some ⟨.int .u8, 1, 1, .int .u8 0, false⟩) ∧ (tt 7 = some ⟨.struct (fl 7), 4, 24, .agg #[.int .i64 0, .int .i64 0, .bool false, .int .u8 0], false⟩) ∧ ((Value.agg #[.int .i64 0, .int .i64 0, .bool false, .int .u8 0]).cells.toList = [.int .i64 0, .int .i64 0, .bool false, .int .u8 0]) ∧ ((fl 7).toList = [fd 7 0, fd 7 1, fd 7 2, fd 7 3]) ∧ ((fl 7)[0]? = some (fd 7 0)) ∧ ((fd 7 0).type = 2) ∧ ((fd 7 0).offset = 0) ∧ ((fl 7)[1]? = some (fd 7 1)) ∧ ((fd 7 1).type = 3) ∧ ((fd 7 1).offset = 1) ∧ ((fl 7)[2]? = some (fd 7 2)) ∧ ((fd 7 2).type = 4) ∧ ((fd 7 2).offset = 2) ∧ ((fl 7)[3]? = some (fd 7 3)) ∧ ((fd 7 3).type = 6) ∧ ((fd 7 3).offset = 3) ∧ (tt 8 = some ⟨.struct (fl 8), 4, 24, .agg #[.int .i64 0, .int .i64 0, .bool false, .int .u8 0], false⟩) ∧ ((fl 8).toList = [fd 8 0, fd 8 1, fd 8 2, fd 8 3]) ∧ ((fl 8)[0]? = some (fd 8 0)) ∧ ((fd 8 0).type = 2) ∧ ((fd 8 0).offset = 0) ∧ ((fl 8)[1]? = some (fd 8 1)) ∧ ((fd 8 1).type = 3) ∧ ((fd 8 1).offset = 1) ∧ ((fl 8)[2]? = some (fd 8 2)) ∧ ((fd 8 2).type = 4) ∧ ((fd 8 2).offset = 2) ∧ ((fl 8)[3]? = some (fd 8 3)) ∧ ((fd 8 3).type = 6) ∧ ((fd 8 3).offset = 3) ∧ (tt 9 = some ⟨.string, 1, 16, .string ByteArray.empty, false⟩) ∧ (tt 10 = some ⟨.string, 1, 16, .string ByteArray.empty, false⟩) ∧ (tt 11 = some ⟨.string, 1, 16, .string ByteArray.empty, false⟩) ∧ (tt 12 = some ⟨.int .u64, 1, 8, .int .u64 0, false⟩) ∧ (tt 13 = some ⟨.struct (fl 13), 2, 24, .agg #[.string ByteArray.empty, .int .u64 0], false⟩) ∧ ((Value.agg #[.string ByteArray.empty, .int .u64 0]).cells.toList = [.string ByteArray.empty, .int .u64 0]) := ⟨tt2, tt3, tt4, tt5, tt6, tt7, zc7, fll7, fl7_0, fdt7_0, fdo7_0, fl7_1, fdt7_1, fdo7_1, fl7_2, fdt7_2, fdo7_2, fl7_3, fdt7_3, fdo7_3, tt8, fll8, fl8_0, fdt8_0, fdo8_0, fl8_1, fdt8_1, fdo8_1, fl8_2, fdt8_2, fdo8_2, fl8_3, fdt8_3, fdo8_3, tt9, tt10, tt11, tt12, tt13, zc13⟩
theorem tyA1 : ((fl 13).toList = [fd 13 0, fd 13 1]) ∧ ((fl 13)[0]? = some (fd 13 0)) ∧ ((fd 13 0).type = 9) ∧ ((fd 13 0).offset = 0) ∧ ((fl 13)[1]? = some (fd 13 1)) ∧ ((fd 13 1).type = 12) ∧ ((fd 13 1).offset = 1) ∧ (tt 14 = some ⟨.struct (fl 14), 2, 24, .agg #[.string ByteArray.empty, .int .u64 0], false⟩) ∧ ((fl 14).toList = [fd 14 0, fd 14 1]) ∧ ((fl 14)[0]? = some (fd 14 0)) ∧ ((fd 14 0).type = 9) ∧ ((fd 14 0).offset = 0) ∧ ((fl 14)[1]? = some (fd 14 1)) ∧ ((fd 14 1).type = 12) ∧ ((fd 14 1).offset = 1) ∧ (tt 15 = some ⟨.pointer 86, 1, 8, .pointer none, false⟩) ∧ (tt 16 = some ⟨.pointer 89, 1, 8, .pointer none, false⟩) ∧ (tt 17 = some ⟨.pointer 97, 1, 8, .pointer none, false⟩) ∧ (tt 18 = some ⟨.struct (fl 18), 1, 8, .agg #[.pointer none], false⟩) ∧ ((Value.agg #[.pointer none]).cells.toList = [.pointer none]) ∧ ((fl 18).toList = [fd 18 0]) ∧ ((fl 18)[0]? = some (fd 18 0)) ∧ ((fd 18 0).type = 17) ∧ ((fd 18 0).offset = 0) ∧ (tt 19 = some ⟨.struct (fl 19), 1, 8, .agg #[.pointer none], false⟩) ∧ ((fl 19).toList = [fd 19 0]) ∧ ((fl 19)[0]? = some (fd 19 0)) ∧ ((fd 19 0).type = 17) ∧ ((fd 19 0).offset = 0) ∧ (tt 21 = some ⟨.int .i32, 1, 4, .int .i32 0, false⟩) ∧ (tt 22 = some ⟨.slice 5, 1, 24, .slice none 0 0, false⟩) ∧ (tt 23 = some ⟨.int .u32, 1, 4, .int .u32 0, false⟩) ∧ (tt 32 = some ⟨.array 4 5, 4, 4, .agg #[.int .u8 0, .int .u8 0, .int .u8 0, .int .u8 0], false⟩) ∧ ((Value.agg #[.int .u8 0, .int .u8 0, .int .u8 0, .int .u8 0]).cells.toList = [.int .u8 0, .int .u8 0, .int .u8 0, .int .u8 0]) ∧ (tt 37 = some ⟨.slice 3, 1, 24, .slice none 0 0, false⟩) ∧ (tt 38 = some ⟨.pointer 78, 1, 8, .pointer none, false⟩) ∧ (tt 40 = some ⟨.slice 43, 1, 24, .slice none 0 0, false⟩) ∧ (tt 42 = some ⟨.struct (fl 42), 2, 32, .agg #[.int .i64 0, .slice none 0 0], false⟩) ∧ ((Value.agg #[.int .i64 0, .slice none 0 0]).cells.toList = [.int .i64 0, .slice none 0 0]) ∧ ((fl 42).toList = [fd 42 0, fd 42 1]) := ⟨fll13, fl13_0, fdt13_0, fdo13_0, fl13_1, fdt13_1, fdo13_1, tt14, fll14, fl14_0, fdt14_0, fdo14_0, fl14_1, fdt14_1, fdo14_1, tt15, tt16, tt17, tt18, zc18, fll18, fl18_0, fdt18_0, fdo18_0, tt19, fll19, fl19_0, fdt19_0, fdo19_0, tt21, tt22, tt23, tt32, zc32, tt37, tt38, tt40, tt42, zc42, fll42⟩
theorem tyA2 : ((fl 42)[0]? = some (fd 42 0)) ∧ ((fd 42 0).type = 3) ∧ ((fd 42 0).offset = 0) ∧ ((fl 42)[1]? = some (fd 42 1)) ∧ ((fd 42 1).type = 22) ∧ ((fd 42 1).offset = 1) ∧ (tt 43 = some ⟨.struct (fl 43), 2, 32, .agg #[.int .i64 0, .slice none 0 0], false⟩) ∧ ((fl 43).toList = [fd 43 0, fd 43 1]) ∧ ((fl 43)[0]? = some (fd 43 0)) ∧ ((fd 43 0).type = 3) ∧ ((fd 43 0).offset = 0) ∧ ((fl 43)[1]? = some (fd 43 1)) ∧ ((fd 43 1).type = 22) ∧ ((fd 43 1).offset = 1) ∧ (tt 47 = some ⟨.struct (fl 47), 3, 24, .agg #[.int .i64 0, .int .i64 0, .int .i64 0], true⟩) ∧ ((Value.agg #[.int .i64 0, .int .i64 0, .int .i64 0]).cells.toList = [.int .i64 0, .int .i64 0, .int .i64 0]) ∧ ((fl 47).toList = [fd 47 0, fd 47 1, fd 47 2]) ∧ ((fl 47)[0]? = some (fd 47 0)) ∧ ((fd 47 0).type = 3) ∧ ((fd 47 0).offset = 0) ∧ ((fl 47)[1]? = some (fd 47 1)) ∧ ((fd 47 1).type = 3) ∧ ((fd 47 1).offset = 1) ∧ ((fl 47)[2]? = some (fd 47 2)) ∧ ((fd 47 2).type = 3) ∧ ((fd 47 2).offset = 2) ∧ (tt 48 = some ⟨.struct (fl 48), 3, 24, .agg #[.int .i64 0, .int .i64 0, .int .i64 0], true⟩) ∧ ((fl 48).toList = [fd 48 0, fd 48 1, fd 48 2]) ∧ ((fl 48)[0]? = some (fd 48 0)) ∧ ((fd 48 0).type = 3) ∧ ((fd 48 0).offset = 0) ∧ ((fl 48)[1]? = some (fd 48 1)) ∧ ((fd 48 1).type = 3) ∧ ((fd 48 1).offset = 1) ∧ ((fl 48)[2]? = some (fd 48 2)) ∧ ((fd 48 2).type = 3) ∧ ((fd 48 2).offset = 2) ∧ (tt 49 = some ⟨.array 4 3, 4, 32, .agg #[.int .i64 0, .int .i64 0, .int .i64 0, .int .i64 0], false⟩) ∧ ((Value.agg #[.int .i64 0, .int .i64 0, .int .i64 0, .int .i64 0]).cells.toList = [.int .i64 0, .int .i64 0, .int .i64 0, .int .i64 0]) ∧ (tt 57 = some ⟨.int .u64, 1, 8, .int .u64 0, false⟩) := ⟨fl42_0, fdt42_0, fdo42_0, fl42_1, fdt42_1, fdo42_1, tt43, fll43, fl43_0, fdt43_0, fdo43_0, fl43_1, fdt43_1, fdo43_1, tt47, zc47, fll47, fl47_0, fdt47_0, fdo47_0, fl47_1, fdt47_1, fdo47_1, fl47_2, fdt47_2, fdo47_2, tt48, fll48, fl48_0, fdt48_0, fdo48_0, fl48_1, fdt48_1, fdo48_1, fl48_2, fdt48_2, fdo48_2, tt49, zc49, tt57⟩
theorem tyA3 : (tt 58 = some ⟨.int .i64, 1, 8, .int .i64 0, false⟩) ∧ (tt 63 = some ⟨.slice 48, 1, 24, .slice none 0 0, false⟩) ∧ (tt 66 = some ⟨.slice 22, 1, 24, .slice none 0 0, false⟩) ∧ (tt 70 = some ⟨.slice 72, 1, 24, .slice none 0 0, false⟩) ∧ (tt 71 = some ⟨.struct (fl 71), 3, 40, .agg #[.int .i64 0, .slice none 0 0, .int .i64 0], false⟩) ∧ ((Value.agg #[.int .i64 0, .slice none 0 0, .int .i64 0]).cells.toList = [.int .i64 0, .slice none 0 0, .int .i64 0]) ∧ ((fl 71).toList = [fd 71 0, fd 71 1, fd 71 2]) ∧ ((fl 71)[0]? = some (fd 71 0)) ∧ ((fd 71 0).type = 3) ∧ ((fd 71 0).offset = 0) ∧ ((fl 71)[1]? = some (fd 71 1)) ∧ ((fd 71 1).type = 22) ∧ ((fd 71 1).offset = 1) ∧ ((fl 71)[2]? = some (fd 71 2)) ∧ ((fd 71 2).type = 3) ∧ ((fd 71 2).offset = 2) ∧ (tt 72 = some ⟨.struct (fl 72), 3, 40, .agg #[.int .i64 0, .slice none 0 0, .int .i64 0], false⟩) ∧ ((fl 72).toList = [fd 72 0, fd 72 1, fd 72 2]) ∧ ((fl 72)[0]? = some (fd 72 0)) ∧ ((fd 72 0).type = 3) ∧ ((fd 72 0).offset = 0) ∧ ((fl 72)[1]? = some (fd 72 1)) ∧ ((fd 72 1).type = 22) ∧ ((fd 72 1).offset = 1) ∧ ((fl 72)[2]? = some (fd 72 2)) ∧ ((fd 72 2).type = 3) ∧ ((fd 72 2).offset = 2) ∧ (tt 77 = some ⟨.struct (fl 77), 2, 32, .agg #[.slice none 0 0, .int .i64 0], false⟩) ∧ ((Value.agg #[.slice none 0 0, .int .i64 0]).cells.toList = [.slice none 0 0, .int .i64 0]) ∧ ((fl 77).toList = [fd 77 0, fd 77 1]) ∧ ((fl 77)[0]? = some (fd 77 0)) ∧ ((fd 77 0).type = 22) ∧ ((fd 77 0).offset = 0) ∧ ((fl 77)[1]? = some (fd 77 1)) ∧ ((fd 77 1).type = 3) ∧ ((fd 77 1).offset = 1) ∧ (tt 78 = some ⟨.struct (fl 78), 2, 32, .agg #[.slice none 0 0, .int .i64 0], false⟩) ∧ ((fl 78).toList = [fd 78 0, fd 78 1]) ∧ ((fl 78)[0]? = some (fd 78 0)) ∧ ((fd 78 0).type = 22) := ⟨tt58, tt63, tt66, tt70, tt71, zc71, fll71, fl71_0, fdt71_0, fdo71_0, fl71_1, fdt71_1, fdo71_1, fl71_2, fdt71_2, fdo71_2, tt72, fll72, fl72_0, fdt72_0, fdo72_0, fl72_1, fdt72_1, fdo72_1, fl72_2, fdt72_2, fdo72_2, tt77, zc77, fll77, fl77_0, fdt77_0, fdo77_0, fl77_1, fdt77_1, fdo77_1, tt78, fll78, fl78_0, fdt78_0⟩
theorem tyA4 : ((fd 78 0).offset = 0) ∧ ((fl 78)[1]? = some (fd 78 1)) ∧ ((fd 78 1).type = 3) ∧ ((fd 78 1).offset = 1) ∧ (tt 81 = some ⟨.array 3 3, 3, 24, .agg #[.int .i64 0, .int .i64 0, .int .i64 0], false⟩) ∧ (tt 85 = some ⟨.struct (fl 85), 4, 40, .agg #[.pointer none, .pointer none, .pointer none, .string ByteArray.empty], false⟩) ∧ ((Value.agg #[.pointer none, .pointer none, .pointer none, .string ByteArray.empty]).cells.toList = [.pointer none, .pointer none, .pointer none, .string ByteArray.empty]) ∧ ((fl 85).toList = [fd 85 0, fd 85 1, fd 85 2, fd 85 3]) ∧ ((fl 85)[0]? = some (fd 85 0)) ∧ ((fd 85 0).type = 17) ∧ ((fd 85 0).offset = 0) ∧ ((fl 85)[1]? = some (fd 85 1)) ∧ ((fd 85 1).type = 17) ∧ ((fd 85 1).offset = 1) ∧ ((fl 85)[2]? = some (fd 85 2)) ∧ ((fd 85 2).type = 17) ∧ ((fd 85 2).offset = 2) ∧ ((fl 85)[3]? = some (fd 85 3)) ∧ ((fd 85 3).type = 9) ∧ ((fd 85 3).offset = 3) ∧ (tt 86 = some ⟨.struct (fl 86), 4, 40, .agg #[.pointer none, .pointer none, .pointer none, .string ByteArray.empty], false⟩) ∧ ((fl 86).toList = [fd 86 0, fd 86 1, fd 86 2, fd 86 3]) ∧ ((fl 86)[0]? = some (fd 86 0)) ∧ ((fd 86 0).type = 17) ∧ ((fd 86 0).offset = 0) ∧ ((fl 86)[1]? = some (fd 86 1)) ∧ ((fd 86 1).type = 17) ∧ ((fd 86 1).offset = 1) ∧ ((fl 86)[2]? = some (fd 86 2)) ∧ ((fd 86 2).type = 17) ∧ ((fd 86 2).offset = 2) ∧ ((fl 86)[3]? = some (fd 86 3)) ∧ ((fd 86 3).type = 9) ∧ ((fd 86 3).offset = 3) ∧ (tt 90 = some ⟨.int .u8, 1, 1, .int .u8 0, false⟩) ∧ (tt 91 = some ⟨.int .u8, 1, 1, .int .u8 0, false⟩) ∧ (tt 93 = some ⟨.pointer 5, 1, 8, .pointer none, false⟩) ∧ (tt 94 = some ⟨.int .i32, 1, 4, .int .i32 0, false⟩) ∧ (tt 95 = some ⟨.int .i32, 1, 4, .int .i32 0, false⟩) ∧ (tt 96 = some ⟨.struct (fl 96), 11, 48, .agg #[.int .u64 0, .int .u64 0, .int .u32 0, .int .u8 0, .int .u8 0, .int .u8 0, .int .u8 0, .nilFunc, .pointer none, .int .i32 0, .int .i32 0], false⟩) := ⟨fdo78_0, fl78_1, fdt78_1, fdo78_1, tt81, tt85, zc85, fll85, fl85_0, fdt85_0, fdo85_0, fl85_1, fdt85_1, fdo85_1, fl85_2, fdt85_2, fdo85_2, fl85_3, fdt85_3, fdo85_3, tt86, fll86, fl86_0, fdt86_0, fdo86_0, fl86_1, fdt86_1, fdo86_1, fl86_2, fdt86_2, fdo86_2, fl86_3, fdt86_3, fdo86_3, tt90, tt91, tt93, tt94, tt95, tt96⟩
theorem tyA5 : ((Value.agg #[.int .u64 0, .int .u64 0, .int .u32 0, .int .u8 0, .int .u8 0, .int .u8 0, .int .u8 0, .nilFunc, .pointer none, .int .i32 0, .int .i32 0]).cells.toList = [.int .u64 0, .int .u64 0, .int .u32 0, .int .u8 0, .int .u8 0, .int .u8 0, .int .u8 0, .nilFunc, .pointer none, .int .i32 0, .int .i32 0]) ∧ ((fl 96).toList = [fd 96 0, fd 96 1, fd 96 2, fd 96 3, fd 96 4, fd 96 5, fd 96 6, fd 96 7, fd 96 8, fd 96 9, fd 96 10]) ∧ ((fl 96)[0]? = some (fd 96 0)) ∧ ((fd 96 0).type = 12) ∧ ((fd 96 0).offset = 0) ∧ ((fl 96)[1]? = some (fd 96 1)) ∧ ((fd 96 1).type = 12) ∧ ((fd 96 1).offset = 1) ∧ ((fl 96)[2]? = some (fd 96 2)) ∧ ((fd 96 2).type = 23) ∧ ((fd 96 2).offset = 2) ∧ ((fl 96)[3]? = some (fd 96 3)) ∧ ((fd 96 3).type = 90) ∧ ((fd 96 3).offset = 3) ∧ ((fl 96)[4]? = some (fd 96 4)) ∧ ((fd 96 4).type = 5) ∧ ((fd 96 4).offset = 4) ∧ ((fl 96)[5]? = some (fd 96 5)) ∧ ((fd 96 5).type = 5) ∧ ((fd 96 5).offset = 5) ∧ ((fl 96)[6]? = some (fd 96 6)) ∧ ((fd 96 6).type = 91) ∧ ((fd 96 6).offset = 6) ∧ ((fl 96)[7]? = some (fd 96 7)) ∧ ((fd 96 7).type = 92) ∧ ((fd 96 7).offset = 7) ∧ ((fl 96)[8]? = some (fd 96 8)) ∧ ((fd 96 8).type = 93) ∧ ((fd 96 8).offset = 8) ∧ ((fl 96)[9]? = some (fd 96 9)) ∧ ((fd 96 9).type = 94) ∧ ((fd 96 9).offset = 9) ∧ ((fl 96)[10]? = some (fd 96 10)) ∧ ((fd 96 10).type = 95) ∧ ((fd 96 10).offset = 10) ∧ (tt 97 = some ⟨.struct (fl 97), 11, 48, .agg #[.int .u64 0, .int .u64 0, .int .u32 0, .int .u8 0, .int .u8 0, .int .u8 0, .int .u8 0, .nilFunc, .pointer none, .int .i32 0, .int .i32 0], false⟩) ∧ ((fl 97).toList = [fd 97 0, fd 97 1, fd 97 2, fd 97 3, fd 97 4, fd 97 5, fd 97 6, fd 97 7, fd 97 8, fd 97 9, fd 97 10]) ∧ ((fl 97)[0]? = some (fd 97 0)) ∧ ((fd 97 0).type = 12) ∧ ((fd 97 0).offset = 0) := ⟨zc96, fll96, fl96_0, fdt96_0, fdo96_0, fl96_1, fdt96_1, fdo96_1, fl96_2, fdt96_2, fdo96_2, fl96_3, fdt96_3, fdo96_3, fl96_4, fdt96_4, fdo96_4, fl96_5, fdt96_5, fdo96_5, fl96_6, fdt96_6, fdo96_6, fl96_7, fdt96_7, fdo96_7, fl96_8, fdt96_8, fdo96_8, fl96_9, fdt96_9, fdo96_9, fl96_10, fdt96_10, fdo96_10, tt97, fll97, fl97_0, fdt97_0, fdo97_0⟩
theorem tyA6 : ((fl 97)[1]? = some (fd 97 1)) ∧ ((fd 97 1).type = 12) ∧ ((fd 97 1).offset = 1) ∧ ((fl 97)[2]? = some (fd 97 2)) ∧ ((fd 97 2).type = 23) ∧ ((fd 97 2).offset = 2) ∧ ((fl 97)[3]? = some (fd 97 3)) ∧ ((fd 97 3).type = 90) ∧ ((fd 97 3).offset = 3) ∧ ((fl 97)[4]? = some (fd 97 4)) ∧ ((fd 97 4).type = 5) ∧ ((fd 97 4).offset = 4) ∧ ((fl 97)[5]? = some (fd 97 5)) ∧ ((fd 97 5).type = 5) ∧ ((fd 97 5).offset = 5) ∧ ((fl 97)[6]? = some (fd 97 6)) ∧ ((fd 97 6).type = 91) ∧ ((fd 97 6).offset = 6) ∧ ((fl 97)[7]? = some (fd 97 7)) ∧ ((fd 97 7).type = 92) ∧ ((fd 97 7).offset = 7) ∧ ((fl 97)[8]? = some (fd 97 8)) ∧ ((fd 97 8).type = 93) ∧ ((fd 97 8).offset = 8) ∧ ((fl 97)[9]? = some (fd 97 9)) ∧ ((fd 97 9).type = 94) ∧ ((fd 97 9).offset = 9) ∧ ((fl 97)[10]? = some (fd 97 10)) ∧ ((fd 97 10).type = 95) ∧ ((fd 97 10).offset = 10) := ⟨fl97_1, fdt97_1, fdo97_1, fl97_2, fdt97_2, fdo97_2, fl97_3, fdt97_3, fdo97_3, fl97_4, fdt97_4, fdo97_4, fl97_5, fdt97_5, fdo97_5, fl97_6, fdt97_6, fdo97_6, fl97_7, fdt97_7, fdo97_7, fl97_8, fdt97_8, fdo97_8, fl97_9, fdt97_9, fdo97_9, fl97_10, fdt97_10, fdo97_10⟩
attribute [irreducible] tt fl fd
end Go.Proofs.Ytfdkihapckfjhaa
