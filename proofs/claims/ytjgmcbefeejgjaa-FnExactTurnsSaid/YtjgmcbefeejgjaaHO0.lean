/-
  My own text (road H): HO0.
-/
import Derived.Test.YtjgmcbefeejgjaaHB2
import Derived.Test.YtjgmcbefeejgjaaProg
import Derived.KernelRfl
namespace HO
open Go Go.Proofs HK
@[simp] theorem tk1 : tk Try.prog 1 = some (false, 1) := by kernel_rfl
@[simp] theorem tk2 : tk Try.prog 2 = some (false, 1) := by kernel_rfl
@[simp] theorem tint2 : tint Try.prog 2 = some .i64 := by kernel_rfl
@[simp] theorem tstr2 : tstr Try.prog 2 = false := by kernel_rfl
@[simp] theorem tzero2 : tzero Try.prog 2 = some [.int .i64 0] := by kernel_rfl
@[simp] theorem tk3 : tk Try.prog 3 = some (false, 1) := by kernel_rfl
@[simp] theorem tint3 : tint Try.prog 3 = some .i64 := by kernel_rfl
@[simp] theorem tstr3 : tstr Try.prog 3 = false := by kernel_rfl
@[simp] theorem tzero3 : tzero Try.prog 3 = some [.int .i64 0] := by kernel_rfl
@[simp] theorem tk4 : tk Try.prog 4 = some (false, 1) := by kernel_rfl
@[simp] theorem tstr4 : tstr Try.prog 4 = false := by kernel_rfl
@[simp] theorem tzero4 : tzero Try.prog 4 = some [.bool false] := by kernel_rfl
@[simp] theorem tk5 : tk Try.prog 5 = some (false, 1) := by kernel_rfl
@[simp] theorem tint5 : tint Try.prog 5 = some .u8 := by kernel_rfl
@[simp] theorem tstr5 : tstr Try.prog 5 = false := by kernel_rfl
@[simp] theorem tzero5 : tzero Try.prog 5 = some [.int .u8 0] := by kernel_rfl
@[simp] theorem tk9 : tk Try.prog 9 = some (false, 1) := by kernel_rfl
@[simp] theorem tstr9 : tstr Try.prog 9 = true := by kernel_rfl
@[simp] theorem tzero9 : tzero Try.prog 9 = some [.str ⟨#[]⟩] := by kernel_rfl
@[simp] theorem tk12 : tk Try.prog 12 = some (false, 1) := by kernel_rfl
@[simp] theorem tint12 : tint Try.prog 12 = some .u64 := by kernel_rfl
@[simp] theorem tstr12 : tstr Try.prog 12 = false := by kernel_rfl
@[simp] theorem tzero12 : tzero Try.prog 12 = some [.int .u64 0] := by kernel_rfl
@[simp] theorem tk13 : tk Try.prog 13 = some (true, 2) := by kernel_rfl
@[simp] theorem tzero13 : tzero Try.prog 13 = some [.str ⟨#[]⟩, .int .u64 0] := by kernel_rfl
@[simp] theorem toff13_0 : toff Try.prog 13 0 = some 0 := by kernel_rfl
@[simp] theorem toff13_1 : toff Try.prog 13 1 = some 1 := by kernel_rfl
@[simp] theorem tplaces13 : tplaces Try.prog 13 = some ([(0, 1), (1, 1)], [.str ⟨#[]⟩, .int .u64 0]) := by kernel_rfl
@[simp] theorem tk20 : tk Try.prog 20 = some (false, 1) := by kernel_rfl
@[simp] theorem tk21 : tk Try.prog 21 = some (false, 1) := by kernel_rfl
@[simp] theorem tint21 : tint Try.prog 21 = some .i32 := by kernel_rfl
@[simp] theorem tstr21 : tstr Try.prog 21 = false := by kernel_rfl
@[simp] theorem tzero21 : tzero Try.prog 21 = some [.int .i32 0] := by kernel_rfl
@[simp] theorem tk22 : tk Try.prog 22 = some (true, 4) := by kernel_rfl
@[simp] theorem tzero22 : tzero Try.prog 22 = some [.int .i64 0, .int .i64 0, .int .i64 0, .int .i64 0] := by kernel_rfl
@[simp] theorem toff22_0 : toff Try.prog 22 0 = some 0 := by kernel_rfl
@[simp] theorem toff22_1 : toff Try.prog 22 1 = some 1 := by kernel_rfl
@[simp] theorem toff22_2 : toff Try.prog 22 2 = some 2 := by kernel_rfl
@[simp] theorem toff22_3 : toff Try.prog 22 3 = some 3 := by kernel_rfl
@[simp] theorem tplaces22 : tplaces Try.prog 22 = some ([(0, 1), (1, 1), (2, 1), (3, 1)], [.int .i64 0, .int .i64 0, .int .i64 0, .int .i64 0]) := by kernel_rfl
@[simp] theorem tk23 : tk Try.prog 23 = some (true, 4) := by kernel_rfl
@[simp] theorem tzero23 : tzero Try.prog 23 = some [.int .i64 0, .int .i64 0, .int .i64 0, .int .i64 0] := by kernel_rfl
@[simp] theorem toff23_0 : toff Try.prog 23 0 = some 0 := by kernel_rfl
@[simp] theorem toff23_1 : toff Try.prog 23 1 = some 1 := by kernel_rfl
@[simp] theorem toff23_2 : toff Try.prog 23 2 = some 2 := by kernel_rfl
@[simp] theorem toff23_3 : toff Try.prog 23 3 = some 3 := by kernel_rfl
@[simp] theorem tplaces23 : tplaces Try.prog 23 = some ([(0, 1), (1, 1), (2, 1), (3, 1)], [.int .i64 0, .int .i64 0, .int .i64 0, .int .i64 0]) := by kernel_rfl
@[simp] theorem tk24 : tk Try.prog 24 = some (false, 1) := by kernel_rfl
@[simp] theorem tk25 : tk Try.prog 25 = some (true, 4) := by kernel_rfl
@[simp] theorem tzero25 : tzero Try.prog 25 = some [.int .i64 0, .int .i64 0, .int .i64 0, .int .i64 0] := by kernel_rfl
@[simp] theorem toff25_0 : toff Try.prog 25 0 = some 0 := by kernel_rfl
@[simp] theorem toff25_1 : toff Try.prog 25 1 = some 1 := by kernel_rfl
@[simp] theorem toff25_2 : toff Try.prog 25 2 = some 2 := by kernel_rfl
@[simp] theorem toff25_3 : toff Try.prog 25 3 = some 3 := by kernel_rfl
@[simp] theorem tplaces25 : tplaces Try.prog 25 = some ([(0, 1), (1, 1), (2, 1), (3, 1)], [.int .i64 0, .int .i64 0, .int .i64 0, .int .i64 0]) := by kernel_rfl
@[simp] theorem tk26 : tk Try.prog 26 = some (false, 1) := by kernel_rfl
@[simp] theorem tk27 : tk Try.prog 27 = some (false, 1) := by kernel_rfl
@[simp] theorem tk28 : tk Try.prog 28 = some (false, 1) := by kernel_rfl
@[simp] theorem tstr28 : tstr Try.prog 28 = false := by kernel_rfl
@[simp] theorem tzero28 : tzero Try.prog 28 = some [.nil] := by kernel_rfl
@[simp] theorem tel28 : tel Try.prog 28 = some (2, 16) := by kernel_rfl
@[simp] theorem tzeroE28 : tzeroE Try.prog 28 = some (2, 16, [.int .i64 0, .int .i64 0]) := by kernel_rfl
@[simp] theorem tk29 : tk Try.prog 29 = some (false, 1) := by kernel_rfl
@[simp] theorem tk30 : tk Try.prog 30 = some (false, 1) := by kernel_rfl
@[simp] theorem tk31 : tk Try.prog 31 = some (false, 1) := by kernel_rfl
@[simp] theorem tk32 : tk Try.prog 32 = some (false, 1) := by kernel_rfl
@[simp] theorem tk33 : tk Try.prog 33 = some (false, 1) := by kernel_rfl
@[simp] theorem tstr33 : tstr Try.prog 33 = false := by kernel_rfl
@[simp] theorem tzero33 : tzero Try.prog 33 = some [.nil] := by kernel_rfl
@[simp] theorem tel33 : tel Try.prog 33 = some (4, 32) := by kernel_rfl
@[simp] theorem tzeroE33 : tzeroE Try.prog 33 = some (4, 32, [.int .i64 0, .int .i64 0, .int .i64 0, .int .i64 0]) := by kernel_rfl
@[simp] theorem tk34 : tk Try.prog 34 = some (false, 1) := by kernel_rfl
@[simp] theorem tk35 : tk Try.prog 35 = some (false, 1) := by kernel_rfl
@[simp] theorem tk36 : tk Try.prog 36 = some (false, 1) := by kernel_rfl
@[simp] theorem tstr36 : tstr Try.prog 36 = false := by kernel_rfl
@[simp] theorem tzero36 : tzero Try.prog 36 = some [.nil] := by kernel_rfl
@[simp] theorem tel36 : tel Try.prog 36 = some (4, 32) := by kernel_rfl
@[simp] theorem tzeroE36 : tzeroE Try.prog 36 = some (4, 32, [.int .i64 0, .int .i64 0, .int .i64 0, .int .i64 0]) := by kernel_rfl
@[simp] theorem tk37 : tk Try.prog 37 = some (false, 1) := by kernel_rfl
@[simp] theorem tk38 : tk Try.prog 38 = some (false, 1) := by kernel_rfl
@[simp] theorem tk39 : tk Try.prog 39 = some (false, 1) := by kernel_rfl
@[simp] theorem tk40 : tk Try.prog 40 = some (false, 1) := by kernel_rfl
@[simp] theorem tk41 : tk Try.prog 41 = some (false, 1) := by kernel_rfl
@[simp] theorem tk42 : tk Try.prog 42 = some (false, 1) := by kernel_rfl
@[simp] theorem tstr42 : tstr Try.prog 42 = false := by kernel_rfl
@[simp] theorem tzero42 : tzero Try.prog 42 = some [.nil] := by kernel_rfl
@[simp] theorem tel42 : tel Try.prog 42 = some (1, 1) := by kernel_rfl
@[simp] theorem tzeroE42 : tzeroE Try.prog 42 = some (1, 1, [.bool false]) := by kernel_rfl
@[simp] theorem tk43 : tk Try.prog 43 = some (false, 1) := by kernel_rfl
@[simp] theorem tk44 : tk Try.prog 44 = some (false, 1) := by kernel_rfl
@[simp] theorem tk45 : tk Try.prog 45 = some (false, 1) := by kernel_rfl
@[simp] theorem tk46 : tk Try.prog 46 = some (false, 1) := by kernel_rfl
@[simp] theorem tk47 : tk Try.prog 47 = some (true, 2) := by kernel_rfl
@[simp] theorem tzero47 : tzero Try.prog 47 = some [.int .i64 0, .nil] := by kernel_rfl
@[simp] theorem toff47_0 : toff Try.prog 47 0 = some 0 := by kernel_rfl
@[simp] theorem toff47_1 : toff Try.prog 47 1 = some 1 := by kernel_rfl
@[simp] theorem tplaces47 : tplaces Try.prog 47 = some ([(0, 1), (1, 1)], [.int .i64 0, .nil]) := by kernel_rfl
@[simp] theorem tk48 : tk Try.prog 48 = some (true, 2) := by kernel_rfl
@[simp] theorem tzero48 : tzero Try.prog 48 = some [.int .i64 0, .nil] := by kernel_rfl
@[simp] theorem toff48_0 : toff Try.prog 48 0 = some 0 := by kernel_rfl
@[simp] theorem toff48_1 : toff Try.prog 48 1 = some 1 := by kernel_rfl
@[simp] theorem tplaces48 : tplaces Try.prog 48 = some ([(0, 1), (1, 1)], [.int .i64 0, .nil]) := by kernel_rfl
@[simp] theorem tk49 : tk Try.prog 49 = some (false, 1) := by kernel_rfl
@[simp] theorem tk50 : tk Try.prog 50 = some (false, 1) := by kernel_rfl
@[simp] theorem tk51 : tk Try.prog 51 = some (true, 2) := by kernel_rfl
@[simp] theorem tzero51 : tzero Try.prog 51 = some [.int .i64 0, .nil] := by kernel_rfl
@[simp] theorem toff51_0 : toff Try.prog 51 0 = some 0 := by kernel_rfl
@[simp] theorem toff51_1 : toff Try.prog 51 1 = some 1 := by kernel_rfl
@[simp] theorem tplaces51 : tplaces Try.prog 51 = some ([(0, 1), (1, 1)], [.int .i64 0, .nil]) := by kernel_rfl
@[simp] theorem tk52 : tk Try.prog 52 = some (true, 2) := by kernel_rfl
@[simp] theorem tzero52 : tzero Try.prog 52 = some [.int .i64 0, .nil] := by kernel_rfl
@[simp] theorem toff52_0 : toff Try.prog 52 0 = some 0 := by kernel_rfl
@[simp] theorem toff52_1 : toff Try.prog 52 1 = some 1 := by kernel_rfl
@[simp] theorem tplaces52 : tplaces Try.prog 52 = some ([(0, 1), (1, 1)], [.int .i64 0, .nil]) := by kernel_rfl
@[simp] theorem tk53 : tk Try.prog 53 = some (false, 1) := by kernel_rfl
@[simp] theorem tk54 : tk Try.prog 54 = some (false, 1) := by kernel_rfl
@[simp] theorem tk55 : tk Try.prog 55 = some (false, 1) := by kernel_rfl
@[simp] theorem tk56 : tk Try.prog 56 = some (false, 1) := by kernel_rfl
@[simp] theorem tstr56 : tstr Try.prog 56 = false := by kernel_rfl
@[simp] theorem tzero56 : tzero Try.prog 56 = some [.nil] := by kernel_rfl
@[simp] theorem tel56 : tel Try.prog 56 = some (1, 1) := by kernel_rfl
@[simp] theorem tzeroE56 : tzeroE Try.prog 56 = some (1, 1, [.int .u8 0]) := by kernel_rfl
@[simp] theorem tk57 : tk Try.prog 57 = some (true, 4) := by kernel_rfl
@[simp] theorem tzero57 : tzero Try.prog 57 = some [.int .i64 0, .int .i64 0, .int .i64 0, .int .i64 0] := by kernel_rfl
@[simp] theorem toff57_0 : toff Try.prog 57 0 = some 0 := by kernel_rfl
@[simp] theorem toff57_1 : toff Try.prog 57 1 = some 1 := by kernel_rfl
@[simp] theorem toff57_2 : toff Try.prog 57 2 = some 2 := by kernel_rfl
@[simp] theorem toff57_3 : toff Try.prog 57 3 = some 3 := by kernel_rfl
@[simp] theorem tplaces57 : tplaces Try.prog 57 = some ([(0, 1), (1, 1), (2, 1), (3, 1)], [.int .i64 0, .int .i64 0, .int .i64 0, .int .i64 0]) := by kernel_rfl
@[simp] theorem tk58 : tk Try.prog 58 = some (true, 4) := by kernel_rfl
@[simp] theorem tzero58 : tzero Try.prog 58 = some [.int .i64 0, .int .i64 0, .int .i64 0, .int .i64 0] := by kernel_rfl
@[simp] theorem toff58_0 : toff Try.prog 58 0 = some 0 := by kernel_rfl
@[simp] theorem toff58_1 : toff Try.prog 58 1 = some 1 := by kernel_rfl
@[simp] theorem toff58_2 : toff Try.prog 58 2 = some 2 := by kernel_rfl
@[simp] theorem toff58_3 : toff Try.prog 58 3 = some 3 := by kernel_rfl
@[simp] theorem tplaces58 : tplaces Try.prog 58 = some ([(0, 1), (1, 1), (2, 1), (3, 1)], [.int .i64 0, .int .i64 0, .int .i64 0, .int .i64 0]) := by kernel_rfl
@[simp] theorem tk60 : tk Try.prog 60 = some (false, 1) := by kernel_rfl
@[simp] theorem tk61 : tk Try.prog 61 = some (false, 1) := by kernel_rfl
@[simp] theorem tk62 : tk Try.prog 62 = some (true, 4) := by kernel_rfl
@[simp] theorem tzero62 : tzero Try.prog 62 = some [.int .i64 0, .int .i64 0, .int .i64 0, .int .i64 0] := by kernel_rfl
@[simp] theorem toff62_0 : toff Try.prog 62 0 = some 0 := by kernel_rfl
@[simp] theorem toff62_1 : toff Try.prog 62 1 = some 1 := by kernel_rfl
@[simp] theorem toff62_2 : toff Try.prog 62 2 = some 2 := by kernel_rfl
@[simp] theorem toff62_3 : toff Try.prog 62 3 = some 3 := by kernel_rfl
@[simp] theorem tplaces62 : tplaces Try.prog 62 = some ([(0, 1), (1, 1), (2, 1), (3, 1)], [.int .i64 0, .int .i64 0, .int .i64 0, .int .i64 0]) := by kernel_rfl
@[simp] theorem tk63 : tk Try.prog 63 = some (false, 1) := by kernel_rfl
@[simp] theorem tk64 : tk Try.prog 64 = some (false, 1) := by kernel_rfl
@[simp] theorem tk65 : tk Try.prog 65 = some (false, 1) := by kernel_rfl
@[simp] theorem tk66 : tk Try.prog 66 = some (false, 1) := by kernel_rfl
@[simp] theorem tk67 : tk Try.prog 67 = some (true, 2) := by kernel_rfl
@[simp] theorem tzero67 : tzero Try.prog 67 = some [.int .i64 0, .int .i64 0] := by kernel_rfl
@[simp] theorem toff67_0 : toff Try.prog 67 0 = some 0 := by kernel_rfl
@[simp] theorem toff67_1 : toff Try.prog 67 1 = some 1 := by kernel_rfl
@[simp] theorem tplaces67 : tplaces Try.prog 67 = some ([(0, 1), (1, 1)], [.int .i64 0, .int .i64 0]) := by kernel_rfl
@[simp] theorem tk68 : tk Try.prog 68 = some (true, 2) := by kernel_rfl
@[simp] theorem tzero68 : tzero Try.prog 68 = some [.int .i64 0, .int .i64 0] := by kernel_rfl
@[simp] theorem toff68_0 : toff Try.prog 68 0 = some 0 := by kernel_rfl
@[simp] theorem toff68_1 : toff Try.prog 68 1 = some 1 := by kernel_rfl
@[simp] theorem tplaces68 : tplaces Try.prog 68 = some ([(0, 1), (1, 1)], [.int .i64 0, .int .i64 0]) := by kernel_rfl
@[simp] theorem tk69 : tk Try.prog 69 = some (false, 1) := by kernel_rfl
@[simp] theorem tk70 : tk Try.prog 70 = some (false, 1) := by kernel_rfl
@[simp] theorem tk71 : tk Try.prog 71 = some (false, 1) := by kernel_rfl
@[simp] theorem tk72 : tk Try.prog 72 = some (false, 1) := by kernel_rfl
@[simp] theorem tk73 : tk Try.prog 73 = some (false, 1) := by kernel_rfl
@[simp] theorem tstr73 : tstr Try.prog 73 = false := by kernel_rfl
@[simp] theorem tzero73 : tzero Try.prog 73 = some [.nil] := by kernel_rfl
@[simp] theorem tel73 : tel Try.prog 73 = some (1, 8) := by kernel_rfl
@[simp] theorem tzeroE73 : tzeroE Try.prog 73 = some (1, 8, [.int .i64 0]) := by kernel_rfl
@[simp] theorem tk74 : tk Try.prog 74 = some (false, 1) := by kernel_rfl
@[simp] theorem tk80 : tk Try.prog 80 = some (false, 1) := by kernel_rfl
@[simp] theorem tk81 : tk Try.prog 81 = some (false, 1) := by kernel_rfl
@[simp] theorem tint81 : tint Try.prog 81 = some .u32 := by kernel_rfl
@[simp] theorem tstr81 : tstr Try.prog 81 = false := by kernel_rfl
@[simp] theorem tzero81 : tzero Try.prog 81 = some [.int .u32 0] := by kernel_rfl
@[simp] theorem tk84 : tk Try.prog 84 = some (false, 1) := by kernel_rfl
@[simp] theorem tk85 : tk Try.prog 85 = some (false, 1) := by kernel_rfl
@[simp] theorem tk90 : tk Try.prog 90 = some (false, 1) := by kernel_rfl
end HO
