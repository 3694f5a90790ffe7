/-
  DERIVED by gen_ty.py: what the program says of its types, a lemma each.
-/
import Derived.Test.YtndmaehndikkaaaChecked
import Derived.Test.YtndmaehndikkaaaAbD
import Derived.KernelRfl
namespace Go.Proofs.Ytndmaehndikkaaa
open Go.Ab
set_option linter.unusedSimpArgs false

noncomputable def tt : TypeId → Option TI := ttOf Try.prog
theorem ttok : TTok Try.prog tt := ttOf_ok _
noncomputable def fl (T : TypeId) : Array Field := flOf Try.prog T
noncomputable def fd (T : TypeId) (k : Nat) : Field := (fl T).getD k default

theorem tt1 : tt 1 = some ⟨.func #[] #[] false, 1, 8, .nilFunc, false⟩ := by kernel_rfl
theorem tt2 : tt 2 = some ⟨.int .i64, 1, 8, .int .i64 0, false⟩ := by kernel_rfl
theorem tt3 : tt 3 = some ⟨.int .i64, 1, 8, .int .i64 0, false⟩ := by kernel_rfl
theorem tt4 : tt 4 = some ⟨.bool, 1, 1, .bool false, false⟩ := by kernel_rfl
theorem tt5 : tt 5 = some ⟨.int .u8, 1, 1, .int .u8 0, false⟩ := by kernel_rfl
theorem tt6 : tt 6 = some ⟨.int .u8, 1, 1, .int .u8 0, false⟩ := by kernel_rfl
theorem tt7 : tt 7 = some ⟨.struct (fl 7), 4, 24, .agg #[.int .i64 0, .int .i64 0, .bool false, .int .u8 0], false⟩ := by kernel_rfl
theorem zc7 : (Value.agg #[.int .i64 0, .int .i64 0, .bool false, .int .u8 0]).cells.toList = [.int .i64 0, .int .i64 0, .bool false, .int .u8 0] := by kernel_rfl
theorem fll7 : (fl 7).toList = [fd 7 0, fd 7 1, fd 7 2, fd 7 3] := by kernel_rfl
theorem fl7_0 : (fl 7)[0]? = some (fd 7 0) := by kernel_rfl
theorem fdt7_0 : (fd 7 0).type = 2 := by kernel_rfl
theorem fdo7_0 : (fd 7 0).offset = 0 := by kernel_rfl
theorem fl7_1 : (fl 7)[1]? = some (fd 7 1) := by kernel_rfl
theorem fdt7_1 : (fd 7 1).type = 3 := by kernel_rfl
theorem fdo7_1 : (fd 7 1).offset = 1 := by kernel_rfl
theorem fl7_2 : (fl 7)[2]? = some (fd 7 2) := by kernel_rfl
theorem fdt7_2 : (fd 7 2).type = 4 := by kernel_rfl
theorem fdo7_2 : (fd 7 2).offset = 2 := by kernel_rfl
theorem fl7_3 : (fl 7)[3]? = some (fd 7 3) := by kernel_rfl
theorem fdt7_3 : (fd 7 3).type = 6 := by kernel_rfl
theorem fdo7_3 : (fd 7 3).offset = 3 := by kernel_rfl
theorem tt8 : tt 8 = some ⟨.struct (fl 8), 4, 24, .agg #[.int .i64 0, .int .i64 0, .bool false, .int .u8 0], false⟩ := by kernel_rfl
theorem fll8 : (fl 8).toList = [fd 8 0, fd 8 1, fd 8 2, fd 8 3] := by kernel_rfl
theorem fl8_0 : (fl 8)[0]? = some (fd 8 0) := by kernel_rfl
theorem fdt8_0 : (fd 8 0).type = 2 := by kernel_rfl
theorem fdo8_0 : (fd 8 0).offset = 0 := by kernel_rfl
theorem fl8_1 : (fl 8)[1]? = some (fd 8 1) := by kernel_rfl
theorem fdt8_1 : (fd 8 1).type = 3 := by kernel_rfl
theorem fdo8_1 : (fd 8 1).offset = 1 := by kernel_rfl
theorem fl8_2 : (fl 8)[2]? = some (fd 8 2) := by kernel_rfl
theorem fdt8_2 : (fd 8 2).type = 4 := by kernel_rfl
theorem fdo8_2 : (fd 8 2).offset = 2 := by kernel_rfl
theorem fl8_3 : (fl 8)[3]? = some (fd 8 3) := by kernel_rfl
theorem fdt8_3 : (fd 8 3).type = 6 := by kernel_rfl
theorem fdo8_3 : (fd 8 3).offset = 3 := by kernel_rfl
theorem tt9 : tt 9 = some ⟨.string, 1, 16, .string ByteArray.empty, false⟩ := by kernel_rfl
theorem tt10 : tt 10 = some ⟨.string, 1, 16, .string ByteArray.empty, false⟩ := by kernel_rfl
theorem tt11 : tt 11 = some ⟨.string, 1, 16, .string ByteArray.empty, false⟩ := by kernel_rfl
theorem tt12 : tt 12 = some ⟨.int .u64, 1, 8, .int .u64 0, false⟩ := by kernel_rfl
theorem tt13 : tt 13 = some ⟨.struct (fl 13), 2, 24, .agg #[.string ByteArray.empty, .int .u64 0], false⟩ := by kernel_rfl
theorem zc13 : (Value.agg #[.string ByteArray.empty, .int .u64 0]).cells.toList = [.string ByteArray.empty, .int .u64 0] := by kernel_rfl
theorem fll13 : (fl 13).toList = [fd 13 0, fd 13 1] := by kernel_rfl
theorem fl13_0 : (fl 13)[0]? = some (fd 13 0) := by kernel_rfl
theorem fdt13_0 : (fd 13 0).type = 9 := by kernel_rfl
theorem fdo13_0 : (fd 13 0).offset = 0 := by kernel_rfl
theorem fl13_1 : (fl 13)[1]? = some (fd 13 1) := by kernel_rfl
theorem fdt13_1 : (fd 13 1).type = 12 := by kernel_rfl
theorem fdo13_1 : (fd 13 1).offset = 1 := by kernel_rfl
theorem tt14 : tt 14 = some ⟨.struct (fl 14), 2, 24, .agg #[.string ByteArray.empty, .int .u64 0], false⟩ := by kernel_rfl
theorem fll14 : (fl 14).toList = [fd 14 0, fd 14 1] := by kernel_rfl
theorem fl14_0 : (fl 14)[0]? = some (fd 14 0) := by kernel_rfl
theorem fdt14_0 : (fd 14 0).type = 9 := by kernel_rfl
theorem fdo14_0 : (fd 14 0).offset = 0 := by kernel_rfl
theorem fl14_1 : (fl 14)[1]? = some (fd 14 1) := by kernel_rfl
theorem fdt14_1 : (fd 14 1).type = 12 := by kernel_rfl
theorem fdo14_1 : (fd 14 1).offset = 1 := by kernel_rfl
theorem tt15 : tt 15 = some ⟨.pointer 80, 1, 8, .pointer none, false⟩ := by kernel_rfl
theorem tt16 : tt 16 = some ⟨.pointer 83, 1, 8, .pointer none, false⟩ := by kernel_rfl
theorem tt17 : tt 17 = some ⟨.pointer 92, 1, 8, .pointer none, false⟩ := by kernel_rfl
theorem tt18 : tt 18 = some ⟨.struct (fl 18), 1, 8, .agg #[.pointer none], false⟩ := by kernel_rfl
theorem zc18 : (Value.agg #[.pointer none]).cells.toList = [.pointer none] := by kernel_rfl
theorem fll18 : (fl 18).toList = [fd 18 0] := by kernel_rfl
theorem fl18_0 : (fl 18)[0]? = some (fd 18 0) := by kernel_rfl
theorem fdt18_0 : (fd 18 0).type = 17 := by kernel_rfl
theorem fdo18_0 : (fd 18 0).offset = 0 := by kernel_rfl
theorem tt19 : tt 19 = some ⟨.struct (fl 19), 1, 8, .agg #[.pointer none], false⟩ := by kernel_rfl
theorem fll19 : (fl 19).toList = [fd 19 0] := by kernel_rfl
theorem fl19_0 : (fl 19)[0]? = some (fd 19 0) := by kernel_rfl
theorem fdt19_0 : (fd 19 0).type = 17 := by kernel_rfl
theorem fdo19_0 : (fd 19 0).offset = 0 := by kernel_rfl
theorem tt21 : tt 21 = some ⟨.int .i32, 1, 4, .int .i32 0, false⟩ := by kernel_rfl
theorem tt22 : tt 22 = some ⟨.slice 44, 1, 24, .slice none 0 0, false⟩ := by kernel_rfl
theorem tt23 : tt 23 = some ⟨.array 2 3, 2, 16, .agg #[.int .i64 0, .int .i64 0], false⟩ := by kernel_rfl
theorem zc23 : (Value.agg #[.int .i64 0, .int .i64 0]).cells.toList = [.int .i64 0, .int .i64 0] := by kernel_rfl
theorem tt24 : tt 24 = some ⟨.slice 4, 1, 24, .slice none 0 0, false⟩ := by kernel_rfl
theorem tt25 : tt 25 = some ⟨.slice 32, 1, 24, .slice none 0 0, false⟩ := by kernel_rfl
theorem tt26 : tt 26 = some ⟨.struct (fl 26), 4, 64, .agg #[.int .i64 0, .int .i64 0, .slice none 0 0, .slice none 0 0], false⟩ := by kernel_rfl
theorem zc26 : (Value.agg #[.int .i64 0, .int .i64 0, .slice none 0 0, .slice none 0 0]).cells.toList = [.int .i64 0, .int .i64 0, .slice none 0 0, .slice none 0 0] := by kernel_rfl
theorem fll26 : (fl 26).toList = [fd 26 0, fd 26 1, fd 26 2, fd 26 3] := by kernel_rfl
theorem fl26_0 : (fl 26)[0]? = some (fd 26 0) := by kernel_rfl
theorem fdt26_0 : (fd 26 0).type = 3 := by kernel_rfl
theorem fdo26_0 : (fd 26 0).offset = 0 := by kernel_rfl
theorem fl26_1 : (fl 26)[1]? = some (fd 26 1) := by kernel_rfl
theorem fdt26_1 : (fd 26 1).type = 3 := by kernel_rfl
theorem fdo26_1 : (fd 26 1).offset = 1 := by kernel_rfl
theorem fl26_2 : (fl 26)[2]? = some (fd 26 2) := by kernel_rfl
theorem fdt26_2 : (fd 26 2).type = 24 := by kernel_rfl
theorem fdo26_2 : (fd 26 2).offset = 2 := by kernel_rfl
theorem fl26_3 : (fl 26)[3]? = some (fd 26 3) := by kernel_rfl
theorem fdt26_3 : (fd 26 3).type = 25 := by kernel_rfl
theorem fdo26_3 : (fd 26 3).offset = 3 := by kernel_rfl
theorem tt27 : tt 27 = some ⟨.struct (fl 27), 4, 64, .agg #[.int .i64 0, .int .i64 0, .slice none 0 0, .slice none 0 0], false⟩ := by kernel_rfl
theorem fll27 : (fl 27).toList = [fd 27 0, fd 27 1, fd 27 2, fd 27 3] := by kernel_rfl
theorem fl27_0 : (fl 27)[0]? = some (fd 27 0) := by kernel_rfl
theorem fdt27_0 : (fd 27 0).type = 3 := by kernel_rfl
theorem fdo27_0 : (fd 27 0).offset = 0 := by kernel_rfl
theorem fl27_1 : (fl 27)[1]? = some (fd 27 1) := by kernel_rfl
theorem fdt27_1 : (fd 27 1).type = 3 := by kernel_rfl
theorem fdo27_1 : (fd 27 1).offset = 1 := by kernel_rfl
theorem fl27_2 : (fl 27)[2]? = some (fd 27 2) := by kernel_rfl
theorem fdt27_2 : (fd 27 2).type = 24 := by kernel_rfl
theorem fdo27_2 : (fd 27 2).offset = 2 := by kernel_rfl
theorem fl27_3 : (fl 27)[3]? = some (fd 27 3) := by kernel_rfl
theorem fdt27_3 : (fd 27 3).type = 25 := by kernel_rfl
theorem fdo27_3 : (fd 27 3).offset = 3 := by kernel_rfl
theorem tt28 : tt 28 = some ⟨.func #[22, 3, 23] #[27] false, 1, 8, .nilFunc, false⟩ := by kernel_rfl
theorem tt29 : tt 29 = some ⟨.func #[3, 3] #[25] false, 1, 8, .nilFunc, false⟩ := by kernel_rfl
theorem tt30 : tt 30 = some ⟨.pointer 52, 1, 8, .pointer none, false⟩ := by kernel_rfl
theorem tt31 : tt 31 = some ⟨.func #[27] #[30] false, 1, 8, .nilFunc, false⟩ := by kernel_rfl
theorem tt32 : tt 32 = some ⟨.slice 3, 1, 24, .slice none 0 0, false⟩ := by kernel_rfl
theorem tt33 : tt 33 = some ⟨.func #[3] #[4] false, 1, 8, .nilFunc, false⟩ := by kernel_rfl
theorem tt34 : tt 34 = some ⟨.func #[27, 3, 32] #[4] false, 1, 8, .nilFunc, false⟩ := by kernel_rfl
theorem tt35 : tt 35 = some ⟨.func #[] #[4] false, 1, 8, .nilFunc, false⟩ := by kernel_rfl
theorem tt36 : tt 36 = some ⟨.func #[22, 3, 23] #[4] false, 1, 8, .nilFunc, false⟩ := by kernel_rfl
theorem tt37 : tt 37 = some ⟨.int .u64, 1, 8, .int .u64 0, false⟩ := by kernel_rfl
theorem tt38 : tt 38 = some ⟨.func #[27] #[24] false, 1, 8, .nilFunc, false⟩ := by kernel_rfl
theorem tt39 : tt 39 = some ⟨.func #[27, 3, 32] #[3] false, 1, 8, .nilFunc, false⟩ := by kernel_rfl
theorem tt40 : tt 40 = some ⟨.func #[] #[3] false, 1, 8, .nilFunc, false⟩ := by kernel_rfl
theorem tt41 : tt 41 = some ⟨.func #[32, 32] #[4] false, 1, 8, .nilFunc, false⟩ := by kernel_rfl
theorem tt42 : tt 42 = some ⟨.func #[] #[32] false, 1, 8, .nilFunc, false⟩ := by kernel_rfl
theorem tt43 : tt 43 = some ⟨.func #[22, 23, 32] #[4] false, 1, 8, .nilFunc, false⟩ := by kernel_rfl
theorem tt44 : tt 44 = some ⟨.array 3 3, 3, 24, .agg #[.int .i64 0, .int .i64 0, .int .i64 0], false⟩ := by kernel_rfl
theorem zc44 : (Value.agg #[.int .i64 0, .int .i64 0, .int .i64 0]).cells.toList = [.int .i64 0, .int .i64 0, .int .i64 0] := by kernel_rfl
theorem tt46 : tt 46 = some ⟨.func #[27, 3] #[32, 4] false, 1, 8, .nilFunc, false⟩ := by kernel_rfl
theorem tt47 : tt 47 = some ⟨.func #[22, 3, 44] #[4] false, 1, 8, .nilFunc, false⟩ := by kernel_rfl
theorem tt48 : tt 48 = some ⟨.func #[27] #[32, 4] false, 1, 8, .nilFunc, false⟩ := by kernel_rfl
theorem tt49 : tt 49 = some ⟨.func #[27, 3] #[3] false, 1, 8, .nilFunc, false⟩ := by kernel_rfl
theorem tt50 : tt 50 = some ⟨.func #[27, 32] #[32, 4] false, 1, 8, .nilFunc, false⟩ := by kernel_rfl
theorem tt51 : tt 51 = some ⟨.struct (fl 51), 7, 104, .agg #[.int .i64 0, .int .i64 0, .slice none 0 0, .slice none 0 0, .int .i64 0, .slice none 0 0, .int .i64 0], false⟩ := by kernel_rfl
theorem zc51 : (Value.agg #[.int .i64 0, .int .i64 0, .slice none 0 0, .slice none 0 0, .int .i64 0, .slice none 0 0, .int .i64 0]).cells.toList = [.int .i64 0, .int .i64 0, .slice none 0 0, .slice none 0 0, .int .i64 0, .slice none 0 0, .int .i64 0] := by kernel_rfl
theorem fll51 : (fl 51).toList = [fd 51 0, fd 51 1, fd 51 2, fd 51 3] := by kernel_rfl
theorem fl51_0 : (fl 51)[0]? = some (fd 51 0) := by kernel_rfl
theorem fdt51_0 : (fd 51 0).type = 27 := by kernel_rfl
theorem fdo51_0 : (fd 51 0).offset = 0 := by kernel_rfl
theorem fl51_1 : (fl 51)[1]? = some (fd 51 1) := by kernel_rfl
theorem fdt51_1 : (fd 51 1).type = 3 := by kernel_rfl
theorem fdo51_1 : (fd 51 1).offset = 4 := by kernel_rfl
theorem fl51_2 : (fl 51)[2]? = some (fd 51 2) := by kernel_rfl
theorem fdt51_2 : (fd 51 2).type = 32 := by kernel_rfl
theorem fdo51_2 : (fd 51 2).offset = 5 := by kernel_rfl
theorem fl51_3 : (fl 51)[3]? = some (fd 51 3) := by kernel_rfl
theorem fdt51_3 : (fd 51 3).type = 3 := by kernel_rfl
theorem fdo51_3 : (fd 51 3).offset = 6 := by kernel_rfl
theorem tt52 : tt 52 = some ⟨.struct (fl 52), 7, 104, .agg #[.int .i64 0, .int .i64 0, .slice none 0 0, .slice none 0 0, .int .i64 0, .slice none 0 0, .int .i64 0], false⟩ := by kernel_rfl
theorem fll52 : (fl 52).toList = [fd 52 0, fd 52 1, fd 52 2, fd 52 3] := by kernel_rfl
theorem fl52_0 : (fl 52)[0]? = some (fd 52 0) := by kernel_rfl
theorem fdt52_0 : (fd 52 0).type = 27 := by kernel_rfl
theorem fdo52_0 : (fd 52 0).offset = 0 := by kernel_rfl
theorem fl52_1 : (fl 52)[1]? = some (fd 52 1) := by kernel_rfl
theorem fdt52_1 : (fd 52 1).type = 3 := by kernel_rfl
theorem fdo52_1 : (fd 52 1).offset = 4 := by kernel_rfl
theorem fl52_2 : (fl 52)[2]? = some (fd 52 2) := by kernel_rfl
theorem fdt52_2 : (fd 52 2).type = 32 := by kernel_rfl
theorem fdo52_2 : (fd 52 2).offset = 5 := by kernel_rfl
theorem fl52_3 : (fl 52)[3]? = some (fd 52 3) := by kernel_rfl
theorem fdt52_3 : (fd 52 3).type = 3 := by kernel_rfl
theorem fdo52_3 : (fd 52 3).offset = 6 := by kernel_rfl
theorem tt53 : tt 53 = some ⟨.func #[27, 3, 3] #[3] false, 1, 8, .nilFunc, false⟩ := by kernel_rfl
theorem tt54 : tt 54 = some ⟨.func #[32] #[32] false, 1, 8, .nilFunc, false⟩ := by kernel_rfl
theorem tt55 : tt 55 = some ⟨.func #[27] #[4] false, 1, 8, .nilFunc, false⟩ := by kernel_rfl
theorem tt56 : tt 56 = some ⟨.func #[32, 33] #[4] false, 1, 8, .nilFunc, false⟩ := by kernel_rfl
theorem tt57 : tt 57 = some ⟨.func #[27, 3, 3] #[25] false, 1, 8, .nilFunc, false⟩ := by kernel_rfl
theorem tt58 : tt 58 = some ⟨.struct (fl 58), 4, 32, .agg #[.int .i64 0, .int .i64 0, .int .i64 0, .int .i64 0], true⟩ := by kernel_rfl
theorem zc58 : (Value.agg #[.int .i64 0, .int .i64 0, .int .i64 0, .int .i64 0]).cells.toList = [.int .i64 0, .int .i64 0, .int .i64 0, .int .i64 0] := by kernel_rfl
theorem fll58 : (fl 58).toList = [fd 58 0, fd 58 1, fd 58 2, fd 58 3] := by kernel_rfl
theorem fl58_0 : (fl 58)[0]? = some (fd 58 0) := by kernel_rfl
theorem fdt58_0 : (fd 58 0).type = 3 := by kernel_rfl
theorem fdo58_0 : (fd 58 0).offset = 0 := by kernel_rfl
theorem fl58_1 : (fl 58)[1]? = some (fd 58 1) := by kernel_rfl
theorem fdt58_1 : (fd 58 1).type = 3 := by kernel_rfl
theorem fdo58_1 : (fd 58 1).offset = 1 := by kernel_rfl
theorem fl58_2 : (fl 58)[2]? = some (fd 58 2) := by kernel_rfl
theorem fdt58_2 : (fd 58 2).type = 3 := by kernel_rfl
theorem fdo58_2 : (fd 58 2).offset = 2 := by kernel_rfl
theorem fl58_3 : (fl 58)[3]? = some (fd 58 3) := by kernel_rfl
theorem fdt58_3 : (fd 58 3).type = 3 := by kernel_rfl
theorem fdo58_3 : (fd 58 3).offset = 3 := by kernel_rfl
theorem tt59 : tt 59 = some ⟨.struct (fl 59), 4, 32, .agg #[.int .i64 0, .int .i64 0, .int .i64 0, .int .i64 0], true⟩ := by kernel_rfl
theorem fll59 : (fl 59).toList = [fd 59 0, fd 59 1, fd 59 2, fd 59 3] := by kernel_rfl
theorem fl59_0 : (fl 59)[0]? = some (fd 59 0) := by kernel_rfl
theorem fdt59_0 : (fd 59 0).type = 3 := by kernel_rfl
theorem fdo59_0 : (fd 59 0).offset = 0 := by kernel_rfl
theorem fl59_1 : (fl 59)[1]? = some (fd 59 1) := by kernel_rfl
theorem fdt59_1 : (fd 59 1).type = 3 := by kernel_rfl
theorem fdo59_1 : (fd 59 1).offset = 1 := by kernel_rfl
theorem fl59_2 : (fl 59)[2]? = some (fd 59 2) := by kernel_rfl
theorem fdt59_2 : (fd 59 2).type = 3 := by kernel_rfl
theorem fdo59_2 : (fd 59 2).offset = 2 := by kernel_rfl
theorem fl59_3 : (fl 59)[3]? = some (fd 59 3) := by kernel_rfl
theorem fdt59_3 : (fd 59 3).type = 3 := by kernel_rfl
theorem fdo59_3 : (fd 59 3).offset = 3 := by kernel_rfl
theorem tt60 : tt 60 = some ⟨.slice 59, 1, 24, .slice none 0 0, false⟩ := by kernel_rfl
theorem tt61 : tt 61 = some ⟨.func #[27, 3] #[4] false, 1, 8, .nilFunc, false⟩ := by kernel_rfl
theorem tt62 : tt 62 = some ⟨.func #[60, 3] #[32] false, 1, 8, .nilFunc, false⟩ := by kernel_rfl
theorem tt63 : tt 63 = some ⟨.int .i64, 1, 8, .int .i64 0, false⟩ := by kernel_rfl
theorem tt65 : tt 65 = some ⟨.func #[27, 27] #[32, 4, 63] false, 1, 8, .nilFunc, false⟩ := by kernel_rfl
theorem tt66 : tt 66 = some ⟨.func #[27, 27] #[4] false, 1, 8, .nilFunc, false⟩ := by kernel_rfl
theorem tt67 : tt 67 = some ⟨.func #[24] #[24] false, 1, 8, .nilFunc, false⟩ := by kernel_rfl
theorem tt68 : tt 68 = some ⟨.func #[25, 69] #[4] false, 1, 8, .nilFunc, false⟩ := by kernel_rfl
theorem tt69 : tt 69 = some ⟨.func #[32] #[4] false, 1, 8, .nilFunc, false⟩ := by kernel_rfl
theorem tt70 : tt 70 = some ⟨.func #[32, 33] #[3] false, 1, 8, .nilFunc, false⟩ := by kernel_rfl
theorem tt71 : tt 71 = some ⟨.func #[69] #[] false, 1, 8, .nilFunc, false⟩ := by kernel_rfl
theorem tt72 : tt 72 = some ⟨.func #[69] #[] false, 1, 8, .nilFunc, false⟩ := by kernel_rfl
theorem tt73 : tt 73 = some ⟨.func #[27, 3] #[72] false, 1, 8, .nilFunc, false⟩ := by kernel_rfl
theorem tt74 : tt 74 = some ⟨.func #[32] #[] false, 1, 8, .nilFunc, false⟩ := by kernel_rfl
theorem tt76 : tt 76 = some ⟨.func #[25, 69] #[3] false, 1, 8, .nilFunc, false⟩ := by kernel_rfl
theorem tt77 : tt 77 = some ⟨.func #[27, 24, 3, 3, 32, 69] #[4] false, 1, 8, .nilFunc, false⟩ := by kernel_rfl
theorem tt78 : tt 78 = some ⟨.func #[] #[9] false, 1, 8, .nilFunc, false⟩ := by kernel_rfl
theorem tt79 : tt 79 = some ⟨.struct (fl 79), 4, 40, .agg #[.pointer none, .pointer none, .pointer none, .string ByteArray.empty], false⟩ := by kernel_rfl
theorem zc79 : (Value.agg #[.pointer none, .pointer none, .pointer none, .string ByteArray.empty]).cells.toList = [.pointer none, .pointer none, .pointer none, .string ByteArray.empty] := by kernel_rfl
theorem fll79 : (fl 79).toList = [fd 79 0, fd 79 1, fd 79 2, fd 79 3] := by kernel_rfl
theorem fl79_0 : (fl 79)[0]? = some (fd 79 0) := by kernel_rfl
theorem fdt79_0 : (fd 79 0).type = 17 := by kernel_rfl
theorem fdo79_0 : (fd 79 0).offset = 0 := by kernel_rfl
theorem fl79_1 : (fl 79)[1]? = some (fd 79 1) := by kernel_rfl
theorem fdt79_1 : (fd 79 1).type = 17 := by kernel_rfl
theorem fdo79_1 : (fd 79 1).offset = 1 := by kernel_rfl
theorem fl79_2 : (fl 79)[2]? = some (fd 79 2) := by kernel_rfl
theorem fdt79_2 : (fd 79 2).type = 17 := by kernel_rfl
theorem fdo79_2 : (fd 79 2).offset = 2 := by kernel_rfl
theorem fl79_3 : (fl 79)[3]? = some (fd 79 3) := by kernel_rfl
theorem fdt79_3 : (fd 79 3).type = 9 := by kernel_rfl
theorem fdo79_3 : (fd 79 3).offset = 3 := by kernel_rfl
theorem tt80 : tt 80 = some ⟨.struct (fl 80), 4, 40, .agg #[.pointer none, .pointer none, .pointer none, .string ByteArray.empty], false⟩ := by kernel_rfl
theorem fll80 : (fl 80).toList = [fd 80 0, fd 80 1, fd 80 2, fd 80 3] := by kernel_rfl
theorem fl80_0 : (fl 80)[0]? = some (fd 80 0) := by kernel_rfl
theorem fdt80_0 : (fd 80 0).type = 17 := by kernel_rfl
theorem fdo80_0 : (fd 80 0).offset = 0 := by kernel_rfl
theorem fl80_1 : (fl 80)[1]? = some (fd 80 1) := by kernel_rfl
theorem fdt80_1 : (fd 80 1).type = 17 := by kernel_rfl
theorem fdo80_1 : (fd 80 1).offset = 1 := by kernel_rfl
theorem fl80_2 : (fl 80)[2]? = some (fd 80 2) := by kernel_rfl
theorem fdt80_2 : (fd 80 2).type = 17 := by kernel_rfl
theorem fdo80_2 : (fd 80 2).offset = 2 := by kernel_rfl
theorem fl80_3 : (fl 80)[3]? = some (fd 80 3) := by kernel_rfl
theorem fdt80_3 : (fd 80 3).type = 9 := by kernel_rfl
theorem fdo80_3 : (fd 80 3).offset = 3 := by kernel_rfl
theorem tt84 : tt 84 = some ⟨.int .u32, 1, 4, .int .u32 0, false⟩ := by kernel_rfl
theorem tt85 : tt 85 = some ⟨.int .u8, 1, 1, .int .u8 0, false⟩ := by kernel_rfl
theorem tt86 : tt 86 = some ⟨.int .u8, 1, 1, .int .u8 0, false⟩ := by kernel_rfl
theorem tt87 : tt 87 = some ⟨.func #[93, 93] #[4] false, 1, 8, .nilFunc, false⟩ := by kernel_rfl
theorem tt88 : tt 88 = some ⟨.pointer 5, 1, 8, .pointer none, false⟩ := by kernel_rfl
theorem tt89 : tt 89 = some ⟨.int .i32, 1, 4, .int .i32 0, false⟩ := by kernel_rfl
theorem tt90 : tt 90 = some ⟨.int .i32, 1, 4, .int .i32 0, false⟩ := by kernel_rfl
theorem tt91 : tt 91 = some ⟨.struct (fl 91), 11, 48, .agg #[.int .u64 0, .int .u64 0, .int .u32 0, .int .u8 0, .int .u8 0, .int .u8 0, .int .u8 0, .nilFunc, .pointer none, .int .i32 0, .int .i32 0], false⟩ := by kernel_rfl
theorem zc91 : (Value.agg #[.int .u64 0, .int .u64 0, .int .u32 0, .int .u8 0, .int .u8 0, .int .u8 0, .int .u8 0, .nilFunc, .pointer none, .int .i32 0, .int .i32 0]).cells.toList = [.int .u64 0, .int .u64 0, .int .u32 0, .int .u8 0, .int .u8 0, .int .u8 0, .int .u8 0, .nilFunc, .pointer none, .int .i32 0, .int .i32 0] := by kernel_rfl
theorem fll91 : (fl 91).toList = [fd 91 0, fd 91 1, fd 91 2, fd 91 3, fd 91 4, fd 91 5, fd 91 6, fd 91 7, fd 91 8, fd 91 9, fd 91 10] := by kernel_rfl
theorem fl91_0 : (fl 91)[0]? = some (fd 91 0) := by kernel_rfl
theorem fdt91_0 : (fd 91 0).type = 12 := by kernel_rfl
theorem fdo91_0 : (fd 91 0).offset = 0 := by kernel_rfl
theorem fl91_1 : (fl 91)[1]? = some (fd 91 1) := by kernel_rfl
theorem fdt91_1 : (fd 91 1).type = 12 := by kernel_rfl
theorem fdo91_1 : (fd 91 1).offset = 1 := by kernel_rfl
theorem fl91_2 : (fl 91)[2]? = some (fd 91 2) := by kernel_rfl
theorem fdt91_2 : (fd 91 2).type = 84 := by kernel_rfl
theorem fdo91_2 : (fd 91 2).offset = 2 := by kernel_rfl
theorem fl91_3 : (fl 91)[3]? = some (fd 91 3) := by kernel_rfl
theorem fdt91_3 : (fd 91 3).type = 85 := by kernel_rfl
theorem fdo91_3 : (fd 91 3).offset = 3 := by kernel_rfl
theorem fl91_4 : (fl 91)[4]? = some (fd 91 4) := by kernel_rfl
theorem fdt91_4 : (fd 91 4).type = 5 := by kernel_rfl
theorem fdo91_4 : (fd 91 4).offset = 4 := by kernel_rfl
theorem fl91_5 : (fl 91)[5]? = some (fd 91 5) := by kernel_rfl
theorem fdt91_5 : (fd 91 5).type = 5 := by kernel_rfl
theorem fdo91_5 : (fd 91 5).offset = 5 := by kernel_rfl
theorem fl91_6 : (fl 91)[6]? = some (fd 91 6) := by kernel_rfl
theorem fdt91_6 : (fd 91 6).type = 86 := by kernel_rfl
theorem fdo91_6 : (fd 91 6).offset = 6 := by kernel_rfl
theorem fl91_7 : (fl 91)[7]? = some (fd 91 7) := by kernel_rfl
theorem fdt91_7 : (fd 91 7).type = 87 := by kernel_rfl
theorem fdo91_7 : (fd 91 7).offset = 7 := by kernel_rfl
theorem fl91_8 : (fl 91)[8]? = some (fd 91 8) := by kernel_rfl
theorem fdt91_8 : (fd 91 8).type = 88 := by kernel_rfl
theorem fdo91_8 : (fd 91 8).offset = 8 := by kernel_rfl
theorem fl91_9 : (fl 91)[9]? = some (fd 91 9) := by kernel_rfl
theorem fdt91_9 : (fd 91 9).type = 89 := by kernel_rfl
theorem fdo91_9 : (fd 91 9).offset = 9 := by kernel_rfl
theorem fl91_10 : (fl 91)[10]? = some (fd 91 10) := by kernel_rfl
theorem fdt91_10 : (fd 91 10).type = 90 := by kernel_rfl
theorem fdo91_10 : (fd 91 10).offset = 10 := by kernel_rfl
theorem tt92 : tt 92 = some ⟨.struct (fl 92), 11, 48, .agg #[.int .u64 0, .int .u64 0, .int .u32 0, .int .u8 0, .int .u8 0, .int .u8 0, .int .u8 0, .nilFunc, .pointer none, .int .i32 0, .int .i32 0], false⟩ := by kernel_rfl
theorem fll92 : (fl 92).toList = [fd 92 0, fd 92 1, fd 92 2, fd 92 3, fd 92 4, fd 92 5, fd 92 6, fd 92 7, fd 92 8, fd 92 9, fd 92 10] := by kernel_rfl
theorem fl92_0 : (fl 92)[0]? = some (fd 92 0) := by kernel_rfl
theorem fdt92_0 : (fd 92 0).type = 12 := by kernel_rfl
theorem fdo92_0 : (fd 92 0).offset = 0 := by kernel_rfl
theorem fl92_1 : (fl 92)[1]? = some (fd 92 1) := by kernel_rfl
theorem fdt92_1 : (fd 92 1).type = 12 := by kernel_rfl
theorem fdo92_1 : (fd 92 1).offset = 1 := by kernel_rfl
theorem fl92_2 : (fl 92)[2]? = some (fd 92 2) := by kernel_rfl
theorem fdt92_2 : (fd 92 2).type = 84 := by kernel_rfl
theorem fdo92_2 : (fd 92 2).offset = 2 := by kernel_rfl
theorem fl92_3 : (fl 92)[3]? = some (fd 92 3) := by kernel_rfl
theorem fdt92_3 : (fd 92 3).type = 85 := by kernel_rfl
theorem fdo92_3 : (fd 92 3).offset = 3 := by kernel_rfl
theorem fl92_4 : (fl 92)[4]? = some (fd 92 4) := by kernel_rfl
theorem fdt92_4 : (fd 92 4).type = 5 := by kernel_rfl
theorem fdo92_4 : (fd 92 4).offset = 4 := by kernel_rfl
theorem fl92_5 : (fl 92)[5]? = some (fd 92 5) := by kernel_rfl
theorem fdt92_5 : (fd 92 5).type = 5 := by kernel_rfl
theorem fdo92_5 : (fd 92 5).offset = 5 := by kernel_rfl
theorem fl92_6 : (fl 92)[6]? = some (fd 92 6) := by kernel_rfl
theorem fdt92_6 : (fd 92 6).type = 86 := by kernel_rfl
theorem fdo92_6 : (fd 92 6).offset = 6 := by kernel_rfl
theorem fl92_7 : (fl 92)[7]? = some (fd 92 7) := by kernel_rfl
theorem fdt92_7 : (fd 92 7).type = 87 := by kernel_rfl
theorem fdo92_7 : (fd 92 7).offset = 7 := by kernel_rfl
theorem fl92_8 : (fl 92)[8]? = some (fd 92 8) := by kernel_rfl
theorem fdt92_8 : (fd 92 8).type = 88 := by kernel_rfl
theorem fdo92_8 : (fd 92 8).offset = 8 := by kernel_rfl
theorem fl92_9 : (fl 92)[9]? = some (fd 92 9) := by kernel_rfl
theorem fdt92_9 : (fd 92 9).type = 89 := by kernel_rfl
theorem fdo92_9 : (fd 92 9).offset = 9 := by kernel_rfl
theorem fl92_10 : (fl 92)[10]? = some (fd 92 10) := by kernel_rfl
theorem fdt92_10 : (fd 92 10).type = 90 := by kernel_rfl
theorem fdo92_10 : (fd 92 10).offset = 10 := by kernel_rfl
theorem fnok3 : FnOk Try.prog 3 := ⟨_, Try.func3, by kernel_rfl, by kernel_rfl⟩
theorem fnok4 : FnOk Try.prog 4 := ⟨_, Try.func4, by kernel_rfl, by kernel_rfl⟩
theorem fnok5 : FnOk Try.prog 5 := ⟨_, Try.func5, by kernel_rfl, by kernel_rfl⟩
theorem fnok6 : FnOk Try.prog 6 := ⟨_, Try.func6, by kernel_rfl, by kernel_rfl⟩
theorem fnok7 : FnOk Try.prog 7 := ⟨_, Try.func7, by kernel_rfl, by kernel_rfl⟩
theorem fnok8 : FnOk Try.prog 8 := ⟨_, Try.func8, by kernel_rfl, by kernel_rfl⟩
theorem fnok9 : FnOk Try.prog 9 := ⟨_, Try.func9, by kernel_rfl, by kernel_rfl⟩
theorem fnok10 : FnOk Try.prog 10 := ⟨_, Try.func10, by kernel_rfl, by kernel_rfl⟩
theorem fnok11 : FnOk Try.prog 11 := ⟨_, Try.func11, by kernel_rfl, by kernel_rfl⟩
theorem fnok12 : FnOk Try.prog 12 := ⟨_, Try.func12, by kernel_rfl, by kernel_rfl⟩
theorem fnok13 : FnOk Try.prog 13 := ⟨_, Try.func13, by kernel_rfl, by kernel_rfl⟩
theorem fnok14 : FnOk Try.prog 14 := ⟨_, Try.func14, by kernel_rfl, by kernel_rfl⟩
theorem fnok15 : FnOk Try.prog 15 := ⟨_, Try.func15, by kernel_rfl, by kernel_rfl⟩
theorem fnok16 : FnOk Try.prog 16 := ⟨_, Try.func16, by kernel_rfl, by kernel_rfl⟩
theorem fnok17 : FnOk Try.prog 17 := ⟨_, Try.func17, by kernel_rfl, by kernel_rfl⟩
theorem fnok18 : FnOk Try.prog 18 := ⟨_, Try.func18, by kernel_rfl, by kernel_rfl⟩
theorem fnok19 : FnOk Try.prog 19 := ⟨_, Try.func19, by kernel_rfl, by kernel_rfl⟩
theorem fnok20 : FnOk Try.prog 20 := ⟨_, Try.func20, by kernel_rfl, by kernel_rfl⟩
theorem fnok21 : FnOk Try.prog 21 := ⟨_, Try.func21, by kernel_rfl, by kernel_rfl⟩
theorem fnok22 : FnOk Try.prog 22 := ⟨_, Try.func22, by kernel_rfl, by kernel_rfl⟩
theorem fnok23 : FnOk Try.prog 23 := ⟨_, Try.func23, by kernel_rfl, by kernel_rfl⟩
theorem fnok24 : FnOk Try.prog 24 := ⟨_, Try.func24, by kernel_rfl, by kernel_rfl⟩
theorem fnok25 : FnOk Try.prog 25 := ⟨_, Try.func25, by kernel_rfl, by kernel_rfl⟩
theorem fnok26 : FnOk Try.prog 26 := ⟨_, Try.func26, by kernel_rfl, by kernel_rfl⟩
theorem fnok27 : FnOk Try.prog 27 := ⟨_, Try.func27, by kernel_rfl, by kernel_rfl⟩
theorem fnok28 : FnOk Try.prog 28 := ⟨_, Try.func28, by kernel_rfl, by kernel_rfl⟩
theorem fnok29 : FnOk Try.prog 29 := ⟨_, Try.func29, by kernel_rfl, by kernel_rfl⟩
theorem fnok30 : FnOk Try.prog 30 := ⟨_, Try.func30, by kernel_rfl, by kernel_rfl⟩
theorem fnok31 : FnOk Try.prog 31 := ⟨_, Try.func31, by kernel_rfl, by kernel_rfl⟩
theorem fnok32 : FnOk Try.prog 32 := ⟨_, Try.func32, by kernel_rfl, by kernel_rfl⟩
theorem fnok33 : FnOk Try.prog 33 := ⟨_, Try.func33, by kernel_rfl, by kernel_rfl⟩
theorem fnok34 : FnOk Try.prog 34 := ⟨_, Try.func34, by kernel_rfl, by kernel_rfl⟩
theorem fnok35 : FnOk Try.prog 35 := ⟨_, Try.func35, by kernel_rfl, by kernel_rfl⟩
theorem fnok36 : FnOk Try.prog 36 := ⟨_, Try.func36, by kernel_rfl, by kernel_rfl⟩
theorem fnok37 : FnOk Try.prog 37 := ⟨_, Try.func37, by kernel_rfl, by kernel_rfl⟩
theorem fnok38 : FnOk Try.prog 38 := ⟨_, Try.func38, by kernel_rfl, by kernel_rfl⟩
theorem fnok39 : FnOk Try.prog 39 := ⟨_, Try.func39, by kernel_rfl, by kernel_rfl⟩
theorem fnok40 : FnOk Try.prog 40 := ⟨_, Try.func40, by kernel_rfl, by kernel_rfl⟩
theorem fnok41 : FnOk Try.prog 41 := ⟨_, Try.func41, by kernel_rfl, by kernel_rfl⟩
theorem fnok42 : FnOk Try.prog 42 := ⟨_, Try.func42, by kernel_rfl, by kernel_rfl⟩
theorem fnok43 : FnOk Try.prog 43 := ⟨_, Try.func43, by kernel_rfl, by kernel_rfl⟩
theorem fnok44 : FnOk Try.prog 44 := ⟨_, Try.func44, by kernel_rfl, by kernel_rfl⟩
theorem fnok45 : FnOk Try.prog 45 := ⟨_, Try.func45, by kernel_rfl, by kernel_rfl⟩
theorem fnok46 : FnOk Try.prog 46 := ⟨_, Try.func46, by kernel_rfl, by kernel_rfl⟩
theorem fnok47 : FnOk Try.prog 47 := ⟨_, Try.func47, by kernel_rfl, by kernel_rfl⟩
theorem fnok48 : FnOk Try.prog 48 := ⟨_, Try.func48, by kernel_rfl, by kernel_rfl⟩
theorem fnok49 : FnOk Try.prog 49 := ⟨_, Try.func49, by kernel_rfl, by kernel_rfl⟩
theorem tyA0 : (tt 1 = some ⟨.func #[] #[] false, 1, 8, .nilFunc, false⟩) ∧ (tt 2 = some ⟨.int .i64, 1, 8, .int .i64 0, false⟩) ∧ (tt 3 = some ⟨.int .i64, 1, 8, .int .i64 0, false⟩) ∧ (tt 4 = some ⟨.bool, 1, 1, .bool false, false⟩) ∧ (tt 5 = some ⟨.int .u8, 1, 1, .int .u8 0, false⟩) ∧ (tt 6 = some ⟨.int .u8, 1, 1, .int .u8 0, false⟩) ∧ (tt 7 = some ⟨.struct (fl 7), 4, 24, .agg #[.int .i64 0, .int .i64 0, .bool false, .int .u8 0], false⟩) ∧ ((Value.agg #[.int .i64 0, .int .i64 0, .bool false, .int .u8 0]).cells.toList = [.int .i64 0, .int .i64 0, .bool false, .int .u8 0]) ∧ ((fl 7).toList = [fd 7 0, fd 7 1, fd 7 2, fd 7 3]) ∧ ((fl 7)[0]? = some (fd 7 0)) ∧ ((fd 7 0).type = 2) ∧ ((fd 7 0).offset = 0) ∧ ((fl 7)[1]? = some (fd 7 1)) ∧ ((fd 7 1).type = 3) ∧ ((fd 7 1).offset = 1) ∧ ((fl 7)[2]? = some (fd 7 2)) ∧ ((fd 7 2).type = 4) ∧ ((fd 7 2).offset = 2) ∧ ((fl 7)[3]? = some (fd 7 3)) ∧ ((fd 7 3).type = 6) ∧ ((fd 7 3).offset = 3) ∧ (tt 8 = some ⟨.struct (fl 8), 4, 24, .agg #[.int .i64 0, .int .i64 0, .bool false, .int .u8 0], false⟩) ∧ ((fl 8).toList = [fd 8 0, fd 8 1, fd 8 2, fd 8 3]) ∧ ((fl 8)[0]? = some (fd 8 0)) ∧ ((fd 8 0).type = 2) ∧ ((fd 8 0).offset = 0) ∧ ((fl 8)[1]? = some (fd 8 1)) ∧ ((fd 8 1).type = 3) ∧ ((fd 8 1).offset = 1) ∧ ((fl 8)[2]? = some (fd 8 2)) ∧ ((fd 8 2).type = 4) ∧ ((fd 8 2).offset = 2) ∧ ((fl 8)[3]? = some (fd 8 3)) ∧ ((fd 8 3).type = 6) ∧ ((fd 8 3).offset = 3) ∧ (tt 9 = some ⟨.string, 1, 16, .string ByteArray.empty, false⟩) ∧ (tt 10 = some ⟨.string, 1, 16, .string ByteArray.empty, false⟩) ∧ (tt 11 = some ⟨.string, 1, 16, .string ByteArray.empty, false⟩) ∧ (tt 12 = some ⟨.int .u64, 1, 8, .int .u64 0, false⟩) ∧ (tt 13 = some ⟨.struct (fl 13), 2, 24, .agg #[.string ByteArray.empty, .int .u64 0], false⟩) := ⟨tt1, tt2, tt3, tt4, tt5, tt6, tt7, zc7, fll7, fl7_0, fdt7_0, fdo7_0, fl7_1, fdt7_1, fdo7_1, fl7_2, fdt7_2, fdo7_2, fl7_3, fdt7_3, fdo7_3, tt8, fll8, fl8_0, fdt8_0, fdo8_0, fl8_1, fdt8_1, fdo8_1, fl8_2, fdt8_2, fdo8_2, fl8_3, fdt8_3, fdo8_3, tt9, tt10, tt11, tt12, tt13⟩
theorem tyA1 : ((Value.agg #[.string ByteArray.empty, .int .u64 0]).cells.toList = [.string ByteArray.empty, .int .u64 0]) ∧ ((fl 13).toList = [fd 13 0, fd 13 1]) ∧ ((fl 13)[0]? = some (fd 13 0)) ∧ ((fd 13 0).type = 9) ∧ ((fd 13 0).offset = 0) ∧ ((fl 13)[1]? = some (fd 13 1)) ∧ ((fd 13 1).type = 12) ∧ ((fd 13 1).offset = 1) ∧ (tt 14 = some ⟨.struct (fl 14), 2, 24, .agg #[.string ByteArray.empty, .int .u64 0], false⟩) ∧ ((fl 14).toList = [fd 14 0, fd 14 1]) ∧ ((fl 14)[0]? = some (fd 14 0)) ∧ ((fd 14 0).type = 9) ∧ ((fd 14 0).offset = 0) ∧ ((fl 14)[1]? = some (fd 14 1)) ∧ ((fd 14 1).type = 12) ∧ ((fd 14 1).offset = 1) ∧ (tt 15 = some ⟨.pointer 80, 1, 8, .pointer none, false⟩) ∧ (tt 16 = some ⟨.pointer 83, 1, 8, .pointer none, false⟩) ∧ (tt 17 = some ⟨.pointer 92, 1, 8, .pointer none, false⟩) ∧ (tt 18 = some ⟨.struct (fl 18), 1, 8, .agg #[.pointer none], false⟩) ∧ ((Value.agg #[.pointer none]).cells.toList = [.pointer none]) ∧ ((fl 18).toList = [fd 18 0]) ∧ ((fl 18)[0]? = some (fd 18 0)) ∧ ((fd 18 0).type = 17) ∧ ((fd 18 0).offset = 0) ∧ (tt 19 = some ⟨.struct (fl 19), 1, 8, .agg #[.pointer none], false⟩) ∧ ((fl 19).toList = [fd 19 0]) ∧ ((fl 19)[0]? = some (fd 19 0)) ∧ ((fd 19 0).type = 17) ∧ ((fd 19 0).offset = 0) ∧ (tt 21 = some ⟨.int .i32, 1, 4, .int .i32 0, false⟩) ∧ (tt 22 = some ⟨.slice 44, 1, 24, .slice none 0 0, false⟩) ∧ (tt 23 = some ⟨.array 2 3, 2, 16, .agg #[.int .i64 0, .int .i64 0], false⟩) ∧ ((Value.agg #[.int .i64 0, .int .i64 0]).cells.toList = [.int .i64 0, .int .i64 0]) ∧ (tt 24 = some ⟨.slice 4, 1, 24, .slice none 0 0, false⟩) ∧ (tt 25 = some ⟨.slice 32, 1, 24, .slice none 0 0, false⟩) ∧ (tt 26 = some ⟨.struct (fl 26), 4, 64, .agg #[.int .i64 0, .int .i64 0, .slice none 0 0, .slice none 0 0], false⟩) ∧ ((Value.agg #[.int .i64 0, .int .i64 0, .slice none 0 0, .slice none 0 0]).cells.toList = [.int .i64 0, .int .i64 0, .slice none 0 0, .slice none 0 0]) ∧ ((fl 26).toList = [fd 26 0, fd 26 1, fd 26 2, fd 26 3]) ∧ ((fl 26)[0]? = some (fd 26 0)) := ⟨zc13, fll13, fl13_0, fdt13_0, fdo13_0, fl13_1, fdt13_1, fdo13_1, tt14, fll14, fl14_0, fdt14_0, fdo14_0, fl14_1, fdt14_1, fdo14_1, tt15, tt16, tt17, tt18, zc18, fll18, fl18_0, fdt18_0, fdo18_0, tt19, fll19, fl19_0, fdt19_0, fdo19_0, tt21, tt22, tt23, zc23, tt24, tt25, tt26, zc26, fll26, fl26_0⟩
theorem tyA2 : ((fd 26 0).type = 3) ∧ ((fd 26 0).offset = 0) ∧ ((fl 26)[1]? = some (fd 26 1)) ∧ ((fd 26 1).type = 3) ∧ ((fd 26 1).offset = 1) ∧ ((fl 26)[2]? = some (fd 26 2)) ∧ ((fd 26 2).type = 24) ∧ ((fd 26 2).offset = 2) ∧ ((fl 26)[3]? = some (fd 26 3)) ∧ ((fd 26 3).type = 25) ∧ ((fd 26 3).offset = 3) ∧ (tt 27 = some ⟨.struct (fl 27), 4, 64, .agg #[.int .i64 0, .int .i64 0, .slice none 0 0, .slice none 0 0], false⟩) ∧ ((fl 27).toList = [fd 27 0, fd 27 1, fd 27 2, fd 27 3]) ∧ ((fl 27)[0]? = some (fd 27 0)) ∧ ((fd 27 0).type = 3) ∧ ((fd 27 0).offset = 0) ∧ ((fl 27)[1]? = some (fd 27 1)) ∧ ((fd 27 1).type = 3) ∧ ((fd 27 1).offset = 1) ∧ ((fl 27)[2]? = some (fd 27 2)) ∧ ((fd 27 2).type = 24) ∧ ((fd 27 2).offset = 2) ∧ ((fl 27)[3]? = some (fd 27 3)) ∧ ((fd 27 3).type = 25) ∧ ((fd 27 3).offset = 3) ∧ (tt 28 = some ⟨.func #[22, 3, 23] #[27] false, 1, 8, .nilFunc, false⟩) ∧ (tt 29 = some ⟨.func #[3, 3] #[25] false, 1, 8, .nilFunc, false⟩) ∧ (tt 30 = some ⟨.pointer 52, 1, 8, .pointer none, false⟩) ∧ (tt 31 = some ⟨.func #[27] #[30] false, 1, 8, .nilFunc, false⟩) ∧ (tt 32 = some ⟨.slice 3, 1, 24, .slice none 0 0, false⟩) ∧ (tt 33 = some ⟨.func #[3] #[4] false, 1, 8, .nilFunc, false⟩) ∧ (tt 34 = some ⟨.func #[27, 3, 32] #[4] false, 1, 8, .nilFunc, false⟩) ∧ (tt 35 = some ⟨.func #[] #[4] false, 1, 8, .nilFunc, false⟩) ∧ (tt 36 = some ⟨.func #[22, 3, 23] #[4] false, 1, 8, .nilFunc, false⟩) ∧ (tt 37 = some ⟨.int .u64, 1, 8, .int .u64 0, false⟩) ∧ (tt 38 = some ⟨.func #[27] #[24] false, 1, 8, .nilFunc, false⟩) ∧ (tt 39 = some ⟨.func #[27, 3, 32] #[3] false, 1, 8, .nilFunc, false⟩) ∧ (tt 40 = some ⟨.func #[] #[3] false, 1, 8, .nilFunc, false⟩) ∧ (tt 41 = some ⟨.func #[32, 32] #[4] false, 1, 8, .nilFunc, false⟩) ∧ (tt 42 = some ⟨.func #[] #[32] false, 1, 8, .nilFunc, false⟩) := ⟨fdt26_0, fdo26_0, fl26_1, fdt26_1, fdo26_1, fl26_2, fdt26_2, fdo26_2, fl26_3, fdt26_3, fdo26_3, tt27, fll27, fl27_0, fdt27_0, fdo27_0, fl27_1, fdt27_1, fdo27_1, fl27_2, fdt27_2, fdo27_2, fl27_3, fdt27_3, fdo27_3, tt28, tt29, tt30, tt31, tt32, tt33, tt34, tt35, tt36, tt37, tt38, tt39, tt40, tt41, tt42⟩
theorem tyA3 : (tt 43 = some ⟨.func #[22, 23, 32] #[4] false, 1, 8, .nilFunc, false⟩) ∧ (tt 44 = some ⟨.array 3 3, 3, 24, .agg #[.int .i64 0, .int .i64 0, .int .i64 0], false⟩) ∧ ((Value.agg #[.int .i64 0, .int .i64 0, .int .i64 0]).cells.toList = [.int .i64 0, .int .i64 0, .int .i64 0]) ∧ (tt 46 = some ⟨.func #[27, 3] #[32, 4] false, 1, 8, .nilFunc, false⟩) ∧ (tt 47 = some ⟨.func #[22, 3, 44] #[4] false, 1, 8, .nilFunc, false⟩) ∧ (tt 48 = some ⟨.func #[27] #[32, 4] false, 1, 8, .nilFunc, false⟩) ∧ (tt 49 = some ⟨.func #[27, 3] #[3] false, 1, 8, .nilFunc, false⟩) ∧ (tt 50 = some ⟨.func #[27, 32] #[32, 4] false, 1, 8, .nilFunc, false⟩) ∧ (tt 51 = some ⟨.struct (fl 51), 7, 104, .agg #[.int .i64 0, .int .i64 0, .slice none 0 0, .slice none 0 0, .int .i64 0, .slice none 0 0, .int .i64 0], false⟩) ∧ ((Value.agg #[.int .i64 0, .int .i64 0, .slice none 0 0, .slice none 0 0, .int .i64 0, .slice none 0 0, .int .i64 0]).cells.toList = [.int .i64 0, .int .i64 0, .slice none 0 0, .slice none 0 0, .int .i64 0, .slice none 0 0, .int .i64 0]) ∧ ((fl 51).toList = [fd 51 0, fd 51 1, fd 51 2, fd 51 3]) ∧ ((fl 51)[0]? = some (fd 51 0)) ∧ ((fd 51 0).type = 27) ∧ ((fd 51 0).offset = 0) ∧ ((fl 51)[1]? = some (fd 51 1)) ∧ ((fd 51 1).type = 3) ∧ ((fd 51 1).offset = 4) ∧ ((fl 51)[2]? = some (fd 51 2)) ∧ ((fd 51 2).type = 32) ∧ ((fd 51 2).offset = 5) ∧ ((fl 51)[3]? = some (fd 51 3)) ∧ ((fd 51 3).type = 3) ∧ ((fd 51 3).offset = 6) ∧ (tt 52 = some ⟨.struct (fl 52), 7, 104, .agg #[.int .i64 0, .int .i64 0, .slice none 0 0, .slice none 0 0, .int .i64 0, .slice none 0 0, .int .i64 0], false⟩) ∧ ((fl 52).toList = [fd 52 0, fd 52 1, fd 52 2, fd 52 3]) ∧ ((fl 52)[0]? = some (fd 52 0)) ∧ ((fd 52 0).type = 27) ∧ ((fd 52 0).offset = 0) ∧ ((fl 52)[1]? = some (fd 52 1)) ∧ ((fd 52 1).type = 3) ∧ ((fd 52 1).offset = 4) ∧ ((fl 52)[2]? = some (fd 52 2)) ∧ ((fd 52 2).type = 32) ∧ ((fd 52 2).offset = 5) ∧ ((fl 52)[3]? = some (fd 52 3)) ∧ ((fd 52 3).type = 3) ∧ ((fd 52 3).offset = 6) ∧ (tt 53 = some ⟨.func #[27, 3, 3] #[3] false, 1, 8, .nilFunc, false⟩) ∧ (tt 54 = some ⟨.func #[32] #[32] false, 1, 8, .nilFunc, false⟩) ∧ (tt 55 = some ⟨.func #[27] #[4] false, 1, 8, .nilFunc, false⟩) := ⟨tt43, tt44, zc44, tt46, tt47, tt48, tt49, tt50, tt51, zc51, fll51, fl51_0, fdt51_0, fdo51_0, fl51_1, fdt51_1, fdo51_1, fl51_2, fdt51_2, fdo51_2, fl51_3, fdt51_3, fdo51_3, tt52, fll52, fl52_0, fdt52_0, fdo52_0, fl52_1, fdt52_1, fdo52_1, fl52_2, fdt52_2, fdo52_2, fl52_3, fdt52_3, fdo52_3, tt53, tt54, tt55⟩
theorem tyA4 : (tt 56 = some ⟨.func #[32, 33] #[4] false, 1, 8, .nilFunc, false⟩) ∧ (tt 57 = some ⟨.func #[27, 3, 3] #[25] false, 1, 8, .nilFunc, false⟩) ∧ (tt 58 = some ⟨.struct (fl 58), 4, 32, .agg #[.int .i64 0, .int .i64 0, .int .i64 0, .int .i64 0], true⟩) ∧ ((Value.agg #[.int .i64 0, .int .i64 0, .int .i64 0, .int .i64 0]).cells.toList = [.int .i64 0, .int .i64 0, .int .i64 0, .int .i64 0]) ∧ ((fl 58).toList = [fd 58 0, fd 58 1, fd 58 2, fd 58 3]) ∧ ((fl 58)[0]? = some (fd 58 0)) ∧ ((fd 58 0).type = 3) ∧ ((fd 58 0).offset = 0) ∧ ((fl 58)[1]? = some (fd 58 1)) ∧ ((fd 58 1).type = 3) ∧ ((fd 58 1).offset = 1) ∧ ((fl 58)[2]? = some (fd 58 2)) ∧ ((fd 58 2).type = 3) ∧ ((fd 58 2).offset = 2) ∧ ((fl 58)[3]? = some (fd 58 3)) ∧ ((fd 58 3).type = 3) ∧ ((fd 58 3).offset = 3) ∧ (tt 59 = some ⟨.struct (fl 59), 4, 32, .agg #[.int .i64 0, .int .i64 0, .int .i64 0, .int .i64 0], true⟩) ∧ ((fl 59).toList = [fd 59 0, fd 59 1, fd 59 2, fd 59 3]) ∧ ((fl 59)[0]? = some (fd 59 0)) ∧ ((fd 59 0).type = 3) ∧ ((fd 59 0).offset = 0) ∧ ((fl 59)[1]? = some (fd 59 1)) ∧ ((fd 59 1).type = 3) ∧ ((fd 59 1).offset = 1) ∧ ((fl 59)[2]? = some (fd 59 2)) ∧ ((fd 59 2).type = 3) ∧ ((fd 59 2).offset = 2) ∧ ((fl 59)[3]? = some (fd 59 3)) ∧ ((fd 59 3).type = 3) ∧ ((fd 59 3).offset = 3) ∧ (tt 60 = some ⟨.slice 59, 1, 24, .slice none 0 0, false⟩) ∧ (tt 61 = some ⟨.func #[27, 3] #[4] false, 1, 8, .nilFunc, false⟩) ∧ (tt 62 = some ⟨.func #[60, 3] #[32] false, 1, 8, .nilFunc, false⟩) ∧ (tt 63 = some ⟨.int .i64, 1, 8, .int .i64 0, false⟩) ∧ (tt 65 = some ⟨.func #[27, 27] #[32, 4, 63] false, 1, 8, .nilFunc, false⟩) ∧ (tt 66 = some ⟨.func #[27, 27] #[4] false, 1, 8, .nilFunc, false⟩) ∧ (tt 67 = some ⟨.func #[24] #[24] false, 1, 8, .nilFunc, false⟩) ∧ (tt 68 = some ⟨.func #[25, 69] #[4] false, 1, 8, .nilFunc, false⟩) ∧ (tt 69 = some ⟨.func #[32] #[4] false, 1, 8, .nilFunc, false⟩) := ⟨tt56, tt57, tt58, zc58, fll58, fl58_0, fdt58_0, fdo58_0, fl58_1, fdt58_1, fdo58_1, fl58_2, fdt58_2, fdo58_2, fl58_3, fdt58_3, fdo58_3, tt59, fll59, fl59_0, fdt59_0, fdo59_0, fl59_1, fdt59_1, fdo59_1, fl59_2, fdt59_2, fdo59_2, fl59_3, fdt59_3, fdo59_3, tt60, tt61, tt62, tt63, tt65, tt66, tt67, tt68, tt69⟩
theorem tyA5 : (tt 70 = some ⟨.func #[32, 33] #[3] false, 1, 8, .nilFunc, false⟩) ∧ (tt 71 = some ⟨.func #[69] #[] false, 1, 8, .nilFunc, false⟩) ∧ (tt 72 = some ⟨.func #[69] #[] false, 1, 8, .nilFunc, false⟩) ∧ (tt 73 = some ⟨.func #[27, 3] #[72] false, 1, 8, .nilFunc, false⟩) ∧ (tt 74 = some ⟨.func #[32] #[] false, 1, 8, .nilFunc, false⟩) ∧ (tt 76 = some ⟨.func #[25, 69] #[3] false, 1, 8, .nilFunc, false⟩) ∧ (tt 77 = some ⟨.func #[27, 24, 3, 3, 32, 69] #[4] false, 1, 8, .nilFunc, false⟩) ∧ (tt 78 = some ⟨.func #[] #[9] false, 1, 8, .nilFunc, false⟩) ∧ (tt 79 = some ⟨.struct (fl 79), 4, 40, .agg #[.pointer none, .pointer none, .pointer none, .string ByteArray.empty], false⟩) ∧ ((Value.agg #[.pointer none, .pointer none, .pointer none, .string ByteArray.empty]).cells.toList = [.pointer none, .pointer none, .pointer none, .string ByteArray.empty]) ∧ ((fl 79).toList = [fd 79 0, fd 79 1, fd 79 2, fd 79 3]) ∧ ((fl 79)[0]? = some (fd 79 0)) ∧ ((fd 79 0).type = 17) ∧ ((fd 79 0).offset = 0) ∧ ((fl 79)[1]? = some (fd 79 1)) ∧ ((fd 79 1).type = 17) ∧ ((fd 79 1).offset = 1) ∧ ((fl 79)[2]? = some (fd 79 2)) ∧ ((fd 79 2).type = 17) ∧ ((fd 79 2).offset = 2) ∧ ((fl 79)[3]? = some (fd 79 3)) ∧ ((fd 79 3).type = 9) ∧ ((fd 79 3).offset = 3) ∧ (tt 80 = some ⟨.struct (fl 80), 4, 40, .agg #[.pointer none, .pointer none, .pointer none, .string ByteArray.empty], false⟩) ∧ ((fl 80).toList = [fd 80 0, fd 80 1, fd 80 2, fd 80 3]) ∧ ((fl 80)[0]? = some (fd 80 0)) ∧ ((fd 80 0).type = 17) ∧ ((fd 80 0).offset = 0) ∧ ((fl 80)[1]? = some (fd 80 1)) ∧ ((fd 80 1).type = 17) ∧ ((fd 80 1).offset = 1) ∧ ((fl 80)[2]? = some (fd 80 2)) ∧ ((fd 80 2).type = 17) ∧ ((fd 80 2).offset = 2) ∧ ((fl 80)[3]? = some (fd 80 3)) ∧ ((fd 80 3).type = 9) ∧ ((fd 80 3).offset = 3) ∧ (tt 84 = some ⟨.int .u32, 1, 4, .int .u32 0, false⟩) ∧ (tt 85 = some ⟨.int .u8, 1, 1, .int .u8 0, false⟩) ∧ (tt 86 = some ⟨.int .u8, 1, 1, .int .u8 0, false⟩) := ⟨tt70, tt71, tt72, tt73, tt74, tt76, tt77, tt78, tt79, zc79, fll79, fl79_0, fdt79_0, fdo79_0, fl79_1, fdt79_1, fdo79_1, fl79_2, fdt79_2, fdo79_2, fl79_3, fdt79_3, fdo79_3, tt80, fll80, fl80_0, fdt80_0, fdo80_0, fl80_1, fdt80_1, fdo80_1, fl80_2, fdt80_2, fdo80_2, fl80_3, fdt80_3, fdo80_3, tt84, tt85, tt86⟩
theorem tyA6 : (tt 87 = some ⟨.func #[93, 93] #[4] false, 1, 8, .nilFunc, false⟩) ∧ (tt 88 = some ⟨.pointer 5, 1, 8, .pointer none, false⟩) ∧ (tt 89 = some ⟨.int .i32, 1, 4, .int .i32 0, false⟩) ∧ (tt 90 = some ⟨.int .i32, 1, 4, .int .i32 0, false⟩) ∧ (tt 91 = some ⟨.struct (fl 91), 11, 48, .agg #[.int .u64 0, .int .u64 0, .int .u32 0, .int .u8 0, .int .u8 0, .int .u8 0, .int .u8 0, .nilFunc, .pointer none, .int .i32 0, .int .i32 0], false⟩) ∧ ((Value.agg #[.int .u64 0, .int .u64 0, .int .u32 0, .int .u8 0, .int .u8 0, .int .u8 0, .int .u8 0, .nilFunc, .pointer none, .int .i32 0, .int .i32 0]).cells.toList = [.int .u64 0, .int .u64 0, .int .u32 0, .int .u8 0, .int .u8 0, .int .u8 0, .int .u8 0, .nilFunc, .pointer none, .int .i32 0, .int .i32 0]) ∧ ((fl 91).toList = [fd 91 0, fd 91 1, fd 91 2, fd 91 3, fd 91 4, fd 91 5, fd 91 6, fd 91 7, fd 91 8, fd 91 9, fd 91 10]) ∧ ((fl 91)[0]? = some (fd 91 0)) ∧ ((fd 91 0).type = 12) ∧ ((fd 91 0).offset = 0) ∧ ((fl 91)[1]? = some (fd 91 1)) ∧ ((fd 91 1).type = 12) ∧ ((fd 91 1).offset = 1) ∧ ((fl 91)[2]? = some (fd 91 2)) ∧ ((fd 91 2).type = 84) ∧ ((fd 91 2).offset = 2) ∧ ((fl 91)[3]? = some (fd 91 3)) ∧ ((fd 91 3).type = 85) ∧ ((fd 91 3).offset = 3) ∧ ((fl 91)[4]? = some (fd 91 4)) ∧ ((fd 91 4).type = 5) ∧ ((fd 91 4).offset = 4) ∧ ((fl 91)[5]? = some (fd 91 5)) ∧ ((fd 91 5).type = 5) ∧ ((fd 91 5).offset = 5) ∧ ((fl 91)[6]? = some (fd 91 6)) ∧ ((fd 91 6).type = 86) ∧ ((fd 91 6).offset = 6) ∧ ((fl 91)[7]? = some (fd 91 7)) ∧ ((fd 91 7).type = 87) ∧ ((fd 91 7).offset = 7) ∧ ((fl 91)[8]? = some (fd 91 8)) ∧ ((fd 91 8).type = 88) ∧ ((fd 91 8).offset = 8) ∧ ((fl 91)[9]? = some (fd 91 9)) ∧ ((fd 91 9).type = 89) ∧ ((fd 91 9).offset = 9) ∧ ((fl 91)[10]? = some (fd 91 10)) ∧ ((fd 91 10).type = 90) ∧ ((fd 91 10).offset = 10) := ⟨tt87, tt88, tt89, tt90, tt91, zc91, fll91, fl91_0, fdt91_0, fdo91_0, fl91_1, fdt91_1, fdo91_1, fl91_2, fdt91_2, fdo91_2, fl91_3, fdt91_3, fdo91_3, fl91_4, fdt91_4, fdo91_4, fl91_5, fdt91_5, fdo91_5, fl91_6, fdt91_6, fdo91_6, fl91_7, fdt91_7, fdo91_7, fl91_8, fdt91_8, fdo91_8, fl91_9, fdt91_9, fdo91_9, fl91_10, fdt91_10, fdo91_10⟩
theorem tyA7 : (tt 92 = some ⟨.struct (fl 92), 11, 48, .agg #[.int .u64 0, .int .u64 0, .int .u32 0, .int .u8 0, .int .u8 0, .int .u8 0, .int .u8 0, .nilFunc, .pointer none, .int .i32 0, .int .i32 0], false⟩) ∧ ((fl 92).toList = [fd 92 0, fd 92 1, fd 92 2, fd 92 3, fd 92 4, fd 92 5, fd 92 6, fd 92 7, fd 92 8, fd 92 9, fd 92 10]) ∧ ((fl 92)[0]? = some (fd 92 0)) ∧ ((fd 92 0).type = 12) ∧ ((fd 92 0).offset = 0) ∧ ((fl 92)[1]? = some (fd 92 1)) ∧ ((fd 92 1).type = 12) ∧ ((fd 92 1).offset = 1) ∧ ((fl 92)[2]? = some (fd 92 2)) ∧ ((fd 92 2).type = 84) ∧ ((fd 92 2).offset = 2) ∧ ((fl 92)[3]? = some (fd 92 3)) ∧ ((fd 92 3).type = 85) ∧ ((fd 92 3).offset = 3) ∧ ((fl 92)[4]? = some (fd 92 4)) ∧ ((fd 92 4).type = 5) ∧ ((fd 92 4).offset = 4) ∧ ((fl 92)[5]? = some (fd 92 5)) ∧ ((fd 92 5).type = 5) ∧ ((fd 92 5).offset = 5) ∧ ((fl 92)[6]? = some (fd 92 6)) ∧ ((fd 92 6).type = 86) ∧ ((fd 92 6).offset = 6) ∧ ((fl 92)[7]? = some (fd 92 7)) ∧ ((fd 92 7).type = 87) ∧ ((fd 92 7).offset = 7) ∧ ((fl 92)[8]? = some (fd 92 8)) ∧ ((fd 92 8).type = 88) ∧ ((fd 92 8).offset = 8) ∧ ((fl 92)[9]? = some (fd 92 9)) ∧ ((fd 92 9).type = 89) ∧ ((fd 92 9).offset = 9) ∧ ((fl 92)[10]? = some (fd 92 10)) ∧ ((fd 92 10).type = 90) ∧ ((fd 92 10).offset = 10) := ⟨tt92, fll92, fl92_0, fdt92_0, fdo92_0, fl92_1, fdt92_1, fdo92_1, fl92_2, fdt92_2, fdo92_2, fl92_3, fdt92_3, fdo92_3, fl92_4, fdt92_4, fdo92_4, fl92_5, fdt92_5, fdo92_5, fl92_6, fdt92_6, fdo92_6, fl92_7, fdt92_7, fdo92_7, fl92_8, fdt92_8, fdo92_8, fl92_9, fdt92_9, fdo92_9, fl92_10, fdt92_10, fdo92_10⟩
theorem tyA : type_of% (And.intro tyA0 (And.intro tyA1 (And.intro tyA2 (And.intro tyA3 (And.intro tyA4 (And.intro tyA5 (And.intro tyA6 (tyA7)))))))) := And.intro tyA0 (And.intro tyA1 (And.intro tyA2 (And.intro tyA3 (And.intro tyA4 (And.intro tyA5 (And.intro tyA6 (tyA7)))))))
attribute [irreducible] tt fl fd
end Go.Proofs.Ytndmaehndikkaaa
