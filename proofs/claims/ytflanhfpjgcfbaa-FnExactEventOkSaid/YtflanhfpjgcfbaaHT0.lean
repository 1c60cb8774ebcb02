/-
  My own text (road H): HT0.
-/
import Derived.Test.YtflanhfpjgcfbaaHB2
import Derived.Test.YtflanhfpjgcfbaaProg
import Derived.KernelRfl
namespace HT
open Go Go.Proofs HK
@[simp] theorem tk1 : tk Try.prog 1 = some (false, 1) := by kernel_rfl
@[simp] theorem tk2 : tk Try.prog 2 = some (false, 1) := by kernel_rfl
@[simp] theorem tint2 : tint Try.prog 2 = some .i64 := by kernel_rfl
@[simp] theorem tstr2 : tstr Try.prog 2 = false := by kernel_rfl
@[simp] theorem tzero2 : tzero Try.prog 2 = some [.int .i64 0] := by kernel_rfl
@[simp] theorem tbyt2 : tbyt Try.prog 2 = false := by kernel_rfl
@[simp] theorem tk3 : tk Try.prog 3 = some (false, 1) := by kernel_rfl
@[simp] theorem tint3 : tint Try.prog 3 = some .i64 := by kernel_rfl
@[simp] theorem tstr3 : tstr Try.prog 3 = false := by kernel_rfl
@[simp] theorem tzero3 : tzero Try.prog 3 = some [.int .i64 0] := by kernel_rfl
@[simp] theorem tbyt3 : tbyt Try.prog 3 = false := by kernel_rfl
@[simp] theorem tk4 : tk Try.prog 4 = some (false, 1) := by kernel_rfl
@[simp] theorem tstr4 : tstr Try.prog 4 = false := by kernel_rfl
@[simp] theorem tzero4 : tzero Try.prog 4 = some [.bool false] := by kernel_rfl
@[simp] theorem tk5 : tk Try.prog 5 = some (false, 1) := by kernel_rfl
@[simp] theorem tint5 : tint Try.prog 5 = some .u8 := by kernel_rfl
@[simp] theorem tstr5 : tstr Try.prog 5 = false := by kernel_rfl
@[simp] theorem tzero5 : tzero Try.prog 5 = some [.int .u8 0] := by kernel_rfl
@[simp] theorem tbyt5 : tbyt Try.prog 5 = false := by kernel_rfl
@[simp] theorem tk9 : tk Try.prog 9 = some (false, 1) := by kernel_rfl
@[simp] theorem tstr9 : tstr Try.prog 9 = true := by kernel_rfl
@[simp] theorem tzero9 : tzero Try.prog 9 = some [.str ⟨#[]⟩] := by kernel_rfl
@[simp] theorem tbyt9 : tbyt Try.prog 9 = false := by kernel_rfl
@[simp] theorem tk12 : tk Try.prog 12 = some (false, 1) := by kernel_rfl
@[simp] theorem tint12 : tint Try.prog 12 = some .u64 := by kernel_rfl
@[simp] theorem tstr12 : tstr Try.prog 12 = false := by kernel_rfl
@[simp] theorem tzero12 : tzero Try.prog 12 = some [.int .u64 0] := by kernel_rfl
@[simp] theorem tbyt12 : tbyt Try.prog 12 = false := by kernel_rfl
@[simp] theorem tk13 : tk Try.prog 13 = some (true, 2) := by kernel_rfl
@[simp] theorem tzero13 : tzero Try.prog 13 = some [.str ⟨#[]⟩, .int .u64 0] := by kernel_rfl
@[simp] theorem toff13_0 : toff Try.prog 13 0 = some 0 := by kernel_rfl
@[simp] theorem toff13_1 : toff Try.prog 13 1 = some 1 := by kernel_rfl
@[simp] theorem tplaces13 : tplaces Try.prog 13 = some ([(0, 1), (1, 1)], [.str ⟨#[]⟩, .int .u64 0]) := by kernel_rfl
@[simp] theorem tk20 : tk Try.prog 20 = some (false, 1) := by kernel_rfl
@[simp] theorem tk21 : tk Try.prog 21 = some (false, 1) := by kernel_rfl
@[simp] theorem tint21 : tint Try.prog 21 = some .i32 := by kernel_rfl
@[simp] theorem tstr21 : tstr Try.prog 21 = false := by kernel_rfl
@[simp] theorem tzero21 : tzero Try.prog 21 = some [.int .i32 0] := by kernel_rfl
@[simp] theorem tbyt21 : tbyt Try.prog 21 = false := by kernel_rfl
@[simp] theorem tk22 : tk Try.prog 22 = some (false, 1) := by kernel_rfl
@[simp] theorem tstr22 : tstr Try.prog 22 = false := by kernel_rfl
@[simp] theorem tzero22 : tzero Try.prog 22 = some [.nil] := by kernel_rfl
@[simp] theorem tbyt22 : tbyt Try.prog 22 = false := by kernel_rfl
@[simp] theorem tel22 : tel Try.prog 22 = some (5, 72) := by kernel_rfl
@[simp] theorem tzeroE22 : tzeroE Try.prog 22 = some (5, 72, [.int .i64 0, .int .i64 0, .nil, .int .i64 0, .nil]) := by kernel_rfl
@[simp] theorem tk23 : tk Try.prog 23 = some (false, 1) := by kernel_rfl
@[simp] theorem tstr23 : tstr Try.prog 23 = false := by kernel_rfl
@[simp] theorem tzero23 : tzero Try.prog 23 = some [.nil] := by kernel_rfl
@[simp] theorem tbyt23 : tbyt Try.prog 23 = false := by kernel_rfl
@[simp] theorem tel23 : tel Try.prog 23 = some (5, 88) := by kernel_rfl
@[simp] theorem tzeroE23 : tzeroE Try.prog 23 = some (5, 88, [.int .i64 0, .nil, .nil, .nil, .bool false]) := by kernel_rfl
@[simp] theorem tk24 : tk Try.prog 24 = some (false, 1) := by kernel_rfl
@[simp] theorem tstr24 : tstr Try.prog 24 = false := by kernel_rfl
@[simp] theorem tzero24 : tzero Try.prog 24 = some [.nil] := by kernel_rfl
@[simp] theorem tbyt24 : tbyt Try.prog 24 = false := by kernel_rfl
@[simp] theorem tel24 : tel Try.prog 24 = some (2, 32) := by kernel_rfl
@[simp] theorem tzeroE24 : tzeroE Try.prog 24 = some (2, 32, [.int .i64 0, .nil]) := by kernel_rfl
@[simp] theorem tk25 : tk Try.prog 25 = some (true, 3) := by kernel_rfl
@[simp] theorem tzero25 : tzero Try.prog 25 = some [.nil, .nil, .nil] := by kernel_rfl
@[simp] theorem toff25_0 : toff Try.prog 25 0 = some 0 := by kernel_rfl
@[simp] theorem toff25_1 : toff Try.prog 25 1 = some 1 := by kernel_rfl
@[simp] theorem toff25_2 : toff Try.prog 25 2 = some 2 := by kernel_rfl
@[simp] theorem tplaces25 : tplaces Try.prog 25 = some ([(0, 1), (1, 1), (2, 1)], [.nil, .nil, .nil]) := by kernel_rfl
@[simp] theorem tk26 : tk Try.prog 26 = some (true, 3) := by kernel_rfl
@[simp] theorem tzero26 : tzero Try.prog 26 = some [.nil, .nil, .nil] := by kernel_rfl
@[simp] theorem toff26_0 : toff Try.prog 26 0 = some 0 := by kernel_rfl
@[simp] theorem toff26_1 : toff Try.prog 26 1 = some 1 := by kernel_rfl
@[simp] theorem toff26_2 : toff Try.prog 26 2 = some 2 := by kernel_rfl
@[simp] theorem tplaces26 : tplaces Try.prog 26 = some ([(0, 1), (1, 1), (2, 1)], [.nil, .nil, .nil]) := by kernel_rfl
@[simp] theorem tk27 : tk Try.prog 27 = some (false, 1) := by kernel_rfl
@[simp] theorem tk28 : tk Try.prog 28 = some (false, 1) := by kernel_rfl
@[simp] theorem tk29 : tk Try.prog 29 = some (false, 1) := by kernel_rfl
@[simp] theorem tstr29 : tstr Try.prog 29 = false := by kernel_rfl
@[simp] theorem tzero29 : tzero Try.prog 29 = some [.nil] := by kernel_rfl
@[simp] theorem tbyt29 : tbyt Try.prog 29 = false := by kernel_rfl
@[simp] theorem tel29 : tel Try.prog 29 = some (5, 72) := by kernel_rfl
@[simp] theorem tzeroE29 : tzeroE Try.prog 29 = some (5, 72, [.int .i64 0, .int .i64 0, .nil, .int .i64 0, .nil]) := by kernel_rfl
@[simp] theorem tk30 : tk Try.prog 30 = some (false, 1) := by kernel_rfl
@[simp] theorem tstr30 : tstr Try.prog 30 = false := by kernel_rfl
@[simp] theorem tzero30 : tzero Try.prog 30 = some [.nil] := by kernel_rfl
@[simp] theorem tbyt30 : tbyt Try.prog 30 = false := by kernel_rfl
@[simp] theorem tel30 : tel Try.prog 30 = some (5, 88) := by kernel_rfl
@[simp] theorem tzeroE30 : tzeroE Try.prog 30 = some (5, 88, [.int .i64 0, .nil, .nil, .nil, .bool false]) := by kernel_rfl
@[simp] theorem tk31 : tk Try.prog 31 = some (false, 1) := by kernel_rfl
@[simp] theorem tstr31 : tstr Try.prog 31 = false := by kernel_rfl
@[simp] theorem tzero31 : tzero Try.prog 31 = some [.nil] := by kernel_rfl
@[simp] theorem tbyt31 : tbyt Try.prog 31 = false := by kernel_rfl
@[simp] theorem tel31 : tel Try.prog 31 = some (2, 32) := by kernel_rfl
@[simp] theorem tzeroE31 : tzeroE Try.prog 31 = some (2, 32, [.int .i64 0, .nil]) := by kernel_rfl
@[simp] theorem tk32 : tk Try.prog 32 = some (true, 3) := by kernel_rfl
@[simp] theorem tzero32 : tzero Try.prog 32 = some [.nil, .nil, .nil] := by kernel_rfl
@[simp] theorem toff32_0 : toff Try.prog 32 0 = some 0 := by kernel_rfl
@[simp] theorem toff32_1 : toff Try.prog 32 1 = some 1 := by kernel_rfl
@[simp] theorem toff32_2 : toff Try.prog 32 2 = some 2 := by kernel_rfl
@[simp] theorem tplaces32 : tplaces Try.prog 32 = some ([(0, 1), (1, 1), (2, 1)], [.nil, .nil, .nil]) := by kernel_rfl
@[simp] theorem tk33 : tk Try.prog 33 = some (true, 3) := by kernel_rfl
@[simp] theorem tzero33 : tzero Try.prog 33 = some [.nil, .nil, .nil] := by kernel_rfl
@[simp] theorem toff33_0 : toff Try.prog 33 0 = some 0 := by kernel_rfl
@[simp] theorem toff33_1 : toff Try.prog 33 1 = some 1 := by kernel_rfl
@[simp] theorem toff33_2 : toff Try.prog 33 2 = some 2 := by kernel_rfl
@[simp] theorem tplaces33 : tplaces Try.prog 33 = some ([(0, 1), (1, 1), (2, 1)], [.nil, .nil, .nil]) := by kernel_rfl
@[simp] theorem tk34 : tk Try.prog 34 = some (false, 1) := by kernel_rfl
@[simp] theorem tk35 : tk Try.prog 35 = some (false, 1) := by kernel_rfl
@[simp] theorem tk36 : tk Try.prog 36 = some (true, 5) := by kernel_rfl
@[simp] theorem tzero36 : tzero Try.prog 36 = some [.bool false, .int .i64 0, .int .i64 0, .int .i64 0, .int .i64 0] := by kernel_rfl
@[simp] theorem toff36_0 : toff Try.prog 36 0 = some 0 := by kernel_rfl
@[simp] theorem toff36_1 : toff Try.prog 36 1 = some 1 := by kernel_rfl
@[simp] theorem toff36_2 : toff Try.prog 36 2 = some 2 := by kernel_rfl
@[simp] theorem toff36_3 : toff Try.prog 36 3 = some 3 := by kernel_rfl
@[simp] theorem toff36_4 : toff Try.prog 36 4 = some 4 := by kernel_rfl
@[simp] theorem tsh36 : tsh Try.prog 36 = some [1, 0, 0, 0, 0] := by kernel_rfl
@[simp] theorem tplaces36 : tplaces Try.prog 36 = some ([(0, 1), (1, 1), (2, 1), (3, 1), (4, 1)], [.bool false, .int .i64 0, .int .i64 0, .int .i64 0, .int .i64 0]) := by kernel_rfl
@[simp] theorem tk37 : tk Try.prog 37 = some (true, 5) := by kernel_rfl
@[simp] theorem tzero37 : tzero Try.prog 37 = some [.bool false, .int .i64 0, .int .i64 0, .int .i64 0, .int .i64 0] := by kernel_rfl
@[simp] theorem toff37_0 : toff Try.prog 37 0 = some 0 := by kernel_rfl
@[simp] theorem toff37_1 : toff Try.prog 37 1 = some 1 := by kernel_rfl
@[simp] theorem toff37_2 : toff Try.prog 37 2 = some 2 := by kernel_rfl
@[simp] theorem toff37_3 : toff Try.prog 37 3 = some 3 := by kernel_rfl
@[simp] theorem toff37_4 : toff Try.prog 37 4 = some 4 := by kernel_rfl
@[simp] theorem tsh37 : tsh Try.prog 37 = some [1, 0, 0, 0, 0] := by kernel_rfl
@[simp] theorem tplaces37 : tplaces Try.prog 37 = some ([(0, 1), (1, 1), (2, 1), (3, 1), (4, 1)], [.bool false, .int .i64 0, .int .i64 0, .int .i64 0, .int .i64 0]) := by kernel_rfl
@[simp] theorem tk38 : tk Try.prog 38 = some (false, 1) := by kernel_rfl
@[simp] theorem tk39 : tk Try.prog 39 = some (true, 5) := by kernel_rfl
@[simp] theorem tzero39 : tzero Try.prog 39 = some [.bool false, .int .i64 0, .int .i64 0, .int .i64 0, .int .i64 0] := by kernel_rfl
@[simp] theorem toff39_0 : toff Try.prog 39 0 = some 0 := by kernel_rfl
@[simp] theorem toff39_1 : toff Try.prog 39 1 = some 1 := by kernel_rfl
@[simp] theorem toff39_2 : toff Try.prog 39 2 = some 2 := by kernel_rfl
@[simp] theorem toff39_3 : toff Try.prog 39 3 = some 3 := by kernel_rfl
@[simp] theorem toff39_4 : toff Try.prog 39 4 = some 4 := by kernel_rfl
@[simp] theorem tsh39 : tsh Try.prog 39 = some [1, 0, 0, 0, 0] := by kernel_rfl
@[simp] theorem tplaces39 : tplaces Try.prog 39 = some ([(0, 1), (1, 1), (2, 1), (3, 1), (4, 1)], [.bool false, .int .i64 0, .int .i64 0, .int .i64 0, .int .i64 0]) := by kernel_rfl
@[simp] theorem tk40 : tk Try.prog 40 = some (false, 1) := by kernel_rfl
@[simp] theorem tk41 : tk Try.prog 41 = some (false, 1) := by kernel_rfl
@[simp] theorem tk42 : tk Try.prog 42 = some (false, 1) := by kernel_rfl
@[simp] theorem tstr42 : tstr Try.prog 42 = false := by kernel_rfl
@[simp] theorem tzero42 : tzero Try.prog 42 = some [.nil] := by kernel_rfl
@[simp] theorem tbyt42 : tbyt Try.prog 42 = false := by kernel_rfl
@[simp] theorem tel42 : tel Try.prog 42 = some (4, 32) := by kernel_rfl
@[simp] theorem tzeroE42 : tzeroE Try.prog 42 = some (4, 32, [.int .i64 0, .int .i64 0, .int .i64 0, .bool false]) := by kernel_rfl
@[simp] theorem tk43 : tk Try.prog 43 = some (false, 1) := by kernel_rfl
@[simp] theorem tk44 : tk Try.prog 44 = some (false, 1) := by kernel_rfl
@[simp] theorem tk45 : tk Try.prog 45 = some (false, 1) := by kernel_rfl
@[simp] theorem tk46 : tk Try.prog 46 = some (false, 1) := by kernel_rfl
@[simp] theorem tk47 : tk Try.prog 47 = some (false, 1) := by kernel_rfl
@[simp] theorem tk48 : tk Try.prog 48 = some (false, 1) := by kernel_rfl
@[simp] theorem tstr48 : tstr Try.prog 48 = false := by kernel_rfl
@[simp] theorem tzero48 : tzero Try.prog 48 = some [.nil] := by kernel_rfl
@[simp] theorem tbyt48 : tbyt Try.prog 48 = false := by kernel_rfl
@[simp] theorem tel48 : tel Try.prog 48 = some (1, 8) := by kernel_rfl
@[simp] theorem tzeroE48 : tzeroE Try.prog 48 = some (1, 8, [.int .i64 0]) := by kernel_rfl
@[simp] theorem tk49 : tk Try.prog 49 = some (false, 1) := by kernel_rfl
@[simp] theorem tstr49 : tstr Try.prog 49 = false := by kernel_rfl
@[simp] theorem tzero49 : tzero Try.prog 49 = some [.nil] := by kernel_rfl
@[simp] theorem tbyt49 : tbyt Try.prog 49 = false := by kernel_rfl
@[simp] theorem tel49 : tel Try.prog 49 = some (2, 32) := by kernel_rfl
@[simp] theorem tzeroE49 : tzeroE Try.prog 49 = some (2, 32, [.nil, .int .i64 0]) := by kernel_rfl
@[simp] theorem tk50 : tk Try.prog 50 = some (false, 1) := by kernel_rfl
@[simp] theorem tstr50 : tstr Try.prog 50 = false := by kernel_rfl
@[simp] theorem tzero50 : tzero Try.prog 50 = some [.nil] := by kernel_rfl
@[simp] theorem tbyt50 : tbyt Try.prog 50 = false := by kernel_rfl
@[simp] theorem tel50 : tel Try.prog 50 = some (1, 24) := by kernel_rfl
@[simp] theorem tzeroE50 : tzeroE Try.prog 50 = some (1, 24, [.nil]) := by kernel_rfl
@[simp] theorem tk51 : tk Try.prog 51 = some (true, 4) := by kernel_rfl
@[simp] theorem tzero51 : tzero Try.prog 51 = some [.nil, .int .i64 0, .nil, .nil] := by kernel_rfl
@[simp] theorem toff51_0 : toff Try.prog 51 0 = some 0 := by kernel_rfl
@[simp] theorem toff51_1 : toff Try.prog 51 1 = some 1 := by kernel_rfl
@[simp] theorem toff51_2 : toff Try.prog 51 2 = some 2 := by kernel_rfl
@[simp] theorem toff51_3 : toff Try.prog 51 3 = some 3 := by kernel_rfl
@[simp] theorem tplaces51 : tplaces Try.prog 51 = some ([(0, 1), (1, 1), (2, 1), (3, 1)], [.nil, .int .i64 0, .nil, .nil]) := by kernel_rfl
@[simp] theorem tk52 : tk Try.prog 52 = some (true, 4) := by kernel_rfl
@[simp] theorem tzero52 : tzero Try.prog 52 = some [.nil, .int .i64 0, .nil, .nil] := by kernel_rfl
@[simp] theorem toff52_0 : toff Try.prog 52 0 = some 0 := by kernel_rfl
@[simp] theorem toff52_1 : toff Try.prog 52 1 = some 1 := by kernel_rfl
@[simp] theorem toff52_2 : toff Try.prog 52 2 = some 2 := by kernel_rfl
@[simp] theorem toff52_3 : toff Try.prog 52 3 = some 3 := by kernel_rfl
@[simp] theorem tplaces52 : tplaces Try.prog 52 = some ([(0, 1), (1, 1), (2, 1), (3, 1)], [.nil, .int .i64 0, .nil, .nil]) := by kernel_rfl
@[simp] theorem tk53 : tk Try.prog 53 = some (true, 4) := by kernel_rfl
@[simp] theorem tzero53 : tzero Try.prog 53 = some [.int .i64 0, .int .i64 0, .int .i64 0, .int .i64 0] := by kernel_rfl
@[simp] theorem toff53_0 : toff Try.prog 53 0 = some 0 := by kernel_rfl
@[simp] theorem toff53_1 : toff Try.prog 53 1 = some 1 := by kernel_rfl
@[simp] theorem toff53_2 : toff Try.prog 53 2 = some 2 := by kernel_rfl
@[simp] theorem toff53_3 : toff Try.prog 53 3 = some 3 := by kernel_rfl
@[simp] theorem tsh53 : tsh Try.prog 53 = some [0, 0, 0, 0] := by kernel_rfl
@[simp] theorem tplaces53 : tplaces Try.prog 53 = some ([(0, 1), (1, 1), (2, 1), (3, 1)], [.int .i64 0, .int .i64 0, .int .i64 0, .int .i64 0]) := by kernel_rfl
@[simp] theorem tk54 : tk Try.prog 54 = some (true, 4) := by kernel_rfl
@[simp] theorem tzero54 : tzero Try.prog 54 = some [.int .i64 0, .int .i64 0, .int .i64 0, .int .i64 0] := by kernel_rfl
@[simp] theorem toff54_0 : toff Try.prog 54 0 = some 0 := by kernel_rfl
@[simp] theorem toff54_1 : toff Try.prog 54 1 = some 1 := by kernel_rfl
@[simp] theorem toff54_2 : toff Try.prog 54 2 = some 2 := by kernel_rfl
@[simp] theorem toff54_3 : toff Try.prog 54 3 = some 3 := by kernel_rfl
@[simp] theorem tsh54 : tsh Try.prog 54 = some [0, 0, 0, 0] := by kernel_rfl
@[simp] theorem tplaces54 : tplaces Try.prog 54 = some ([(0, 1), (1, 1), (2, 1), (3, 1)], [.int .i64 0, .int .i64 0, .int .i64 0, .int .i64 0]) := by kernel_rfl
@[simp] theorem tk55 : tk Try.prog 55 = some (false, 1) := by kernel_rfl
@[simp] theorem tk56 : tk Try.prog 56 = some (false, 1) := by kernel_rfl
@[simp] theorem tk57 : tk Try.prog 57 = some (false, 1) := by kernel_rfl
@[simp] theorem tstr57 : tstr Try.prog 57 = false := by kernel_rfl
@[simp] theorem tzero57 : tzero Try.prog 57 = some [.nil] := by kernel_rfl
@[simp] theorem tbyt57 : tbyt Try.prog 57 = false := by kernel_rfl
@[simp] theorem tel57 : tel Try.prog 57 = some (2, 32) := by kernel_rfl
@[simp] theorem tzeroE57 : tzeroE Try.prog 57 = some (2, 32, [.nil, .int .i64 0]) := by kernel_rfl
@[simp] theorem tk58 : tk Try.prog 58 = some (false, 1) := by kernel_rfl
@[simp] theorem tstr58 : tstr Try.prog 58 = false := by kernel_rfl
@[simp] theorem tzero58 : tzero Try.prog 58 = some [.nil] := by kernel_rfl
@[simp] theorem tbyt58 : tbyt Try.prog 58 = false := by kernel_rfl
@[simp] theorem tel58 : tel Try.prog 58 = some (1, 24) := by kernel_rfl
@[simp] theorem tzeroE58 : tzeroE Try.prog 58 = some (1, 24, [.nil]) := by kernel_rfl
@[simp] theorem tk59 : tk Try.prog 59 = some (true, 4) := by kernel_rfl
@[simp] theorem tzero59 : tzero Try.prog 59 = some [.nil, .int .i64 0, .nil, .nil] := by kernel_rfl
@[simp] theorem toff59_0 : toff Try.prog 59 0 = some 0 := by kernel_rfl
@[simp] theorem toff59_1 : toff Try.prog 59 1 = some 1 := by kernel_rfl
@[simp] theorem toff59_2 : toff Try.prog 59 2 = some 2 := by kernel_rfl
@[simp] theorem toff59_3 : toff Try.prog 59 3 = some 3 := by kernel_rfl
@[simp] theorem tplaces59 : tplaces Try.prog 59 = some ([(0, 1), (1, 1), (2, 1), (3, 1)], [.nil, .int .i64 0, .nil, .nil]) := by kernel_rfl
@[simp] theorem tk60 : tk Try.prog 60 = some (true, 4) := by kernel_rfl
@[simp] theorem tzero60 : tzero Try.prog 60 = some [.nil, .int .i64 0, .nil, .nil] := by kernel_rfl
@[simp] theorem toff60_0 : toff Try.prog 60 0 = some 0 := by kernel_rfl
@[simp] theorem toff60_1 : toff Try.prog 60 1 = some 1 := by kernel_rfl
@[simp] theorem toff60_2 : toff Try.prog 60 2 = some 2 := by kernel_rfl
@[simp] theorem toff60_3 : toff Try.prog 60 3 = some 3 := by kernel_rfl
@[simp] theorem tplaces60 : tplaces Try.prog 60 = some ([(0, 1), (1, 1), (2, 1), (3, 1)], [.nil, .int .i64 0, .nil, .nil]) := by kernel_rfl
@[simp] theorem tk61 : tk Try.prog 61 = some (false, 1) := by kernel_rfl
@[simp] theorem tk62 : tk Try.prog 62 = some (true, 4) := by kernel_rfl
@[simp] theorem tzero62 : tzero Try.prog 62 = some [.int .i64 0, .int .i64 0, .int .i64 0, .int .i64 0] := by kernel_rfl
@[simp] theorem toff62_0 : toff Try.prog 62 0 = some 0 := by kernel_rfl
@[simp] theorem toff62_1 : toff Try.prog 62 1 = some 1 := by kernel_rfl
@[simp] theorem toff62_2 : toff Try.prog 62 2 = some 2 := by kernel_rfl
@[simp] theorem toff62_3 : toff Try.prog 62 3 = some 3 := by kernel_rfl
@[simp] theorem tsh62 : tsh Try.prog 62 = some [0, 0, 0, 0] := by kernel_rfl
@[simp] theorem tplaces62 : tplaces Try.prog 62 = some ([(0, 1), (1, 1), (2, 1), (3, 1)], [.int .i64 0, .int .i64 0, .int .i64 0, .int .i64 0]) := by kernel_rfl
@[simp] theorem tk63 : tk Try.prog 63 = some (false, 1) := by kernel_rfl
@[simp] theorem tk64 : tk Try.prog 64 = some (false, 1) := by kernel_rfl
@[simp] theorem tk65 : tk Try.prog 65 = some (false, 1) := by kernel_rfl
@[simp] theorem tk66 : tk Try.prog 66 = some (false, 1) := by kernel_rfl
@[simp] theorem tstr66 : tstr Try.prog 66 = false := by kernel_rfl
@[simp] theorem tzero66 : tzero Try.prog 66 = some [.nil] := by kernel_rfl
@[simp] theorem tbyt66 : tbyt Try.prog 66 = false := by kernel_rfl
@[simp] theorem tel66 : tel Try.prog 66 = some (4, 32) := by kernel_rfl
@[simp] theorem tzeroE66 : tzeroE Try.prog 66 = some (4, 32, [.int .i64 0, .int .i64 0, .int .i64 0, .bool false]) := by kernel_rfl
@[simp] theorem tk67 : tk Try.prog 67 = some (true, 5) := by kernel_rfl
@[simp] theorem tzero67 : tzero Try.prog 67 = some [.int .i64 0, .int .i64 0, .nil, .int .i64 0, .nil] := by kernel_rfl
@[simp] theorem toff67_0 : toff Try.prog 67 0 = some 0 := by kernel_rfl
@[simp] theorem toff67_1 : toff Try.prog 67 1 = some 1 := by kernel_rfl
@[simp] theorem toff67_2 : toff Try.prog 67 2 = some 2 := by kernel_rfl
@[simp] theorem toff67_3 : toff Try.prog 67 3 = some 3 := by kernel_rfl
@[simp] theorem toff67_4 : toff Try.prog 67 4 = some 4 := by kernel_rfl
@[simp] theorem tplaces67 : tplaces Try.prog 67 = some ([(0, 1), (1, 1), (2, 1), (3, 1), (4, 1)], [.int .i64 0, .int .i64 0, .nil, .int .i64 0, .nil]) := by kernel_rfl
@[simp] theorem tk68 : tk Try.prog 68 = some (true, 5) := by kernel_rfl
@[simp] theorem tzero68 : tzero Try.prog 68 = some [.int .i64 0, .int .i64 0, .nil, .int .i64 0, .nil] := by kernel_rfl
@[simp] theorem toff68_0 : toff Try.prog 68 0 = some 0 := by kernel_rfl
@[simp] theorem toff68_1 : toff Try.prog 68 1 = some 1 := by kernel_rfl
@[simp] theorem toff68_2 : toff Try.prog 68 2 = some 2 := by kernel_rfl
@[simp] theorem toff68_3 : toff Try.prog 68 3 = some 3 := by kernel_rfl
@[simp] theorem toff68_4 : toff Try.prog 68 4 = some 4 := by kernel_rfl
@[simp] theorem tplaces68 : tplaces Try.prog 68 = some ([(0, 1), (1, 1), (2, 1), (3, 1), (4, 1)], [.int .i64 0, .int .i64 0, .nil, .int .i64 0, .nil]) := by kernel_rfl
@[simp] theorem tk69 : tk Try.prog 69 = some (false, 1) := by kernel_rfl
@[simp] theorem tk70 : tk Try.prog 70 = some (false, 1) := by kernel_rfl
@[simp] theorem tk71 : tk Try.prog 71 = some (true, 5) := by kernel_rfl
@[simp] theorem tzero71 : tzero Try.prog 71 = some [.int .i64 0, .int .i64 0, .nil, .int .i64 0, .nil] := by kernel_rfl
@[simp] theorem toff71_0 : toff Try.prog 71 0 = some 0 := by kernel_rfl
@[simp] theorem toff71_1 : toff Try.prog 71 1 = some 1 := by kernel_rfl
@[simp] theorem toff71_2 : toff Try.prog 71 2 = some 2 := by kernel_rfl
@[simp] theorem toff71_3 : toff Try.prog 71 3 = some 3 := by kernel_rfl
@[simp] theorem toff71_4 : toff Try.prog 71 4 = some 4 := by kernel_rfl
@[simp] theorem tplaces71 : tplaces Try.prog 71 = some ([(0, 1), (1, 1), (2, 1), (3, 1), (4, 1)], [.int .i64 0, .int .i64 0, .nil, .int .i64 0, .nil]) := by kernel_rfl
@[simp] theorem tk72 : tk Try.prog 72 = some (true, 5) := by kernel_rfl
@[simp] theorem tzero72 : tzero Try.prog 72 = some [.int .i64 0, .int .i64 0, .nil, .int .i64 0, .nil] := by kernel_rfl
@[simp] theorem toff72_0 : toff Try.prog 72 0 = some 0 := by kernel_rfl
@[simp] theorem toff72_1 : toff Try.prog 72 1 = some 1 := by kernel_rfl
@[simp] theorem toff72_2 : toff Try.prog 72 2 = some 2 := by kernel_rfl
@[simp] theorem toff72_3 : toff Try.prog 72 3 = some 3 := by kernel_rfl
@[simp] theorem toff72_4 : toff Try.prog 72 4 = some 4 := by kernel_rfl
@[simp] theorem tplaces72 : tplaces Try.prog 72 = some ([(0, 1), (1, 1), (2, 1), (3, 1), (4, 1)], [.int .i64 0, .int .i64 0, .nil, .int .i64 0, .nil]) := by kernel_rfl
@[simp] theorem tk73 : tk Try.prog 73 = some (false, 1) := by kernel_rfl
@[simp] theorem tk74 : tk Try.prog 74 = some (false, 1) := by kernel_rfl
@[simp] theorem tk75 : tk Try.prog 75 = some (false, 1) := by kernel_rfl
@[simp] theorem tk76 : tk Try.prog 76 = some (true, 4) := by kernel_rfl
@[simp] theorem tzero76 : tzero Try.prog 76 = some [.int .i64 0, .int .i64 0, .int .i64 0, .int .i64 0] := by kernel_rfl
@[simp] theorem toff76_0 : toff Try.prog 76 0 = some 0 := by kernel_rfl
@[simp] theorem toff76_1 : toff Try.prog 76 1 = some 1 := by kernel_rfl
@[simp] theorem toff76_2 : toff Try.prog 76 2 = some 2 := by kernel_rfl
@[simp] theorem toff76_3 : toff Try.prog 76 3 = some 3 := by kernel_rfl
@[simp] theorem tsh76 : tsh Try.prog 76 = some [0, 0, 0, 0] := by kernel_rfl
@[simp] theorem tplaces76 : tplaces Try.prog 76 = some ([(0, 1), (1, 1), (2, 1), (3, 1)], [.int .i64 0, .int .i64 0, .int .i64 0, .int .i64 0]) := by kernel_rfl
@[simp] theorem tk77 : tk Try.prog 77 = some (true, 4) := by kernel_rfl
@[simp] theorem tzero77 : tzero Try.prog 77 = some [.int .i64 0, .int .i64 0, .int .i64 0, .int .i64 0] := by kernel_rfl
@[simp] theorem toff77_0 : toff Try.prog 77 0 = some 0 := by kernel_rfl
@[simp] theorem toff77_1 : toff Try.prog 77 1 = some 1 := by kernel_rfl
@[simp] theorem toff77_2 : toff Try.prog 77 2 = some 2 := by kernel_rfl
@[simp] theorem toff77_3 : toff Try.prog 77 3 = some 3 := by kernel_rfl
@[simp] theorem tsh77 : tsh Try.prog 77 = some [0, 0, 0, 0] := by kernel_rfl
@[simp] theorem tplaces77 : tplaces Try.prog 77 = some ([(0, 1), (1, 1), (2, 1), (3, 1)], [.int .i64 0, .int .i64 0, .int .i64 0, .int .i64 0]) := by kernel_rfl
@[simp] theorem tk79 : tk Try.prog 79 = some (false, 1) := by kernel_rfl
@[simp] theorem tk80 : tk Try.prog 80 = some (false, 1) := by kernel_rfl
@[simp] theorem tk81 : tk Try.prog 81 = some (false, 1) := by kernel_rfl
@[simp] theorem tstr81 : tstr Try.prog 81 = false := by kernel_rfl
@[simp] theorem tzero81 : tzero Try.prog 81 = some [.nil] := by kernel_rfl
@[simp] theorem tbyt81 : tbyt Try.prog 81 = false := by kernel_rfl
@[simp] theorem tel81 : tel Try.prog 81 = some (6, 48) := by kernel_rfl
@[simp] theorem tzeroE81 : tzeroE Try.prog 81 = some (6, 48, [.bool false, .int .i64 0, .bool false, .int .i64 0, .int .i64 0, .int .i64 0]) := by kernel_rfl
@[simp] theorem tk82 : tk Try.prog 82 = some (false, 1) := by kernel_rfl
@[simp] theorem tk83 : tk Try.prog 83 = some (false, 1) := by kernel_rfl
@[simp] theorem tk84 : tk Try.prog 84 = some (false, 1) := by kernel_rfl
@[simp] theorem tk85 : tk Try.prog 85 = some (false, 1) := by kernel_rfl
@[simp] theorem tk86 : tk Try.prog 86 = some (false, 1) := by kernel_rfl
@[simp] theorem tk87 : tk Try.prog 87 = some (false, 1) := by kernel_rfl
@[simp] theorem tk88 : tk Try.prog 88 = some (false, 1) := by kernel_rfl
@[simp] theorem tk89 : tk Try.prog 89 = some (false, 1) := by kernel_rfl
@[simp] theorem tk90 : tk Try.prog 90 = some (false, 1) := by kernel_rfl
@[simp] theorem tk91 : tk Try.prog 91 = some (false, 1) := by kernel_rfl
@[simp] theorem tk92 : tk Try.prog 92 = some (false, 1) := by kernel_rfl
@[simp] theorem tk93 : tk Try.prog 93 = some (false, 1) := by kernel_rfl
@[simp] theorem tk94 : tk Try.prog 94 = some (true, 4) := by kernel_rfl
@[simp] theorem tzero94 : tzero Try.prog 94 = some [.int .i64 0, .int .i64 0, .int .i64 0, .bool false] := by kernel_rfl
@[simp] theorem toff94_0 : toff Try.prog 94 0 = some 0 := by kernel_rfl
@[simp] theorem toff94_1 : toff Try.prog 94 1 = some 1 := by kernel_rfl
@[simp] theorem toff94_2 : toff Try.prog 94 2 = some 2 := by kernel_rfl
@[simp] theorem toff94_3 : toff Try.prog 94 3 = some 3 := by kernel_rfl
@[simp] theorem tsh94 : tsh Try.prog 94 = some [0, 0, 0, 1] := by kernel_rfl
@[simp] theorem tplaces94 : tplaces Try.prog 94 = some ([(0, 1), (1, 1), (2, 1), (3, 1)], [.int .i64 0, .int .i64 0, .int .i64 0, .bool false]) := by kernel_rfl
@[simp] theorem tk95 : tk Try.prog 95 = some (true, 4) := by kernel_rfl
@[simp] theorem tzero95 : tzero Try.prog 95 = some [.int .i64 0, .int .i64 0, .int .i64 0, .bool false] := by kernel_rfl
@[simp] theorem toff95_0 : toff Try.prog 95 0 = some 0 := by kernel_rfl
@[simp] theorem toff95_1 : toff Try.prog 95 1 = some 1 := by kernel_rfl
@[simp] theorem toff95_2 : toff Try.prog 95 2 = some 2 := by kernel_rfl
@[simp] theorem toff95_3 : toff Try.prog 95 3 = some 3 := by kernel_rfl
@[simp] theorem tsh95 : tsh Try.prog 95 = some [0, 0, 0, 1] := by kernel_rfl
@[simp] theorem tplaces95 : tplaces Try.prog 95 = some ([(0, 1), (1, 1), (2, 1), (3, 1)], [.int .i64 0, .int .i64 0, .int .i64 0, .bool false]) := by kernel_rfl
@[simp] theorem tk96 : tk Try.prog 96 = some (false, 1) := by kernel_rfl
@[simp] theorem tk97 : tk Try.prog 97 = some (false, 1) := by kernel_rfl
@[simp] theorem tk98 : tk Try.prog 98 = some (false, 1) := by kernel_rfl
@[simp] theorem tk99 : tk Try.prog 99 = some (false, 1) := by kernel_rfl
@[simp] theorem tk100 : tk Try.prog 100 = some (false, 1) := by kernel_rfl
@[simp] theorem tstr100 : tstr Try.prog 100 = false := by kernel_rfl
@[simp] theorem tzero100 : tzero Try.prog 100 = some [.nil] := by kernel_rfl
@[simp] theorem tbyt100 : tbyt Try.prog 100 = false := by kernel_rfl
@[simp] theorem tel100 : tel Try.prog 100 = some (3, 24) := by kernel_rfl
@[simp] theorem tzeroE100 : tzeroE Try.prog 100 = some (3, 24, [.int .i64 0, .int .i64 0, .int .i64 0]) := by kernel_rfl
@[simp] theorem tk101 : tk Try.prog 101 = some (true, 5) := by kernel_rfl
@[simp] theorem tzero101 : tzero Try.prog 101 = some [.int .i64 0, .nil, .nil, .nil, .bool false] := by kernel_rfl
@[simp] theorem toff101_0 : toff Try.prog 101 0 = some 0 := by kernel_rfl
@[simp] theorem toff101_1 : toff Try.prog 101 1 = some 1 := by kernel_rfl
@[simp] theorem toff101_2 : toff Try.prog 101 2 = some 2 := by kernel_rfl
@[simp] theorem toff101_3 : toff Try.prog 101 3 = some 3 := by kernel_rfl
@[simp] theorem toff101_4 : toff Try.prog 101 4 = some 4 := by kernel_rfl
@[simp] theorem tplaces101 : tplaces Try.prog 101 = some ([(0, 1), (1, 1), (2, 1), (3, 1), (4, 1)], [.int .i64 0, .nil, .nil, .nil, .bool false]) := by kernel_rfl
@[simp] theorem tk102 : tk Try.prog 102 = some (true, 5) := by kernel_rfl
@[simp] theorem tzero102 : tzero Try.prog 102 = some [.int .i64 0, .nil, .nil, .nil, .bool false] := by kernel_rfl
@[simp] theorem toff102_0 : toff Try.prog 102 0 = some 0 := by kernel_rfl
@[simp] theorem toff102_1 : toff Try.prog 102 1 = some 1 := by kernel_rfl
@[simp] theorem toff102_2 : toff Try.prog 102 2 = some 2 := by kernel_rfl
@[simp] theorem toff102_3 : toff Try.prog 102 3 = some 3 := by kernel_rfl
@[simp] theorem toff102_4 : toff Try.prog 102 4 = some 4 := by kernel_rfl
@[simp] theorem tplaces102 : tplaces Try.prog 102 = some ([(0, 1), (1, 1), (2, 1), (3, 1), (4, 1)], [.int .i64 0, .nil, .nil, .nil, .bool false]) := by kernel_rfl
@[simp] theorem tk103 : tk Try.prog 103 = some (false, 1) := by kernel_rfl
@[simp] theorem tk104 : tk Try.prog 104 = some (false, 1) := by kernel_rfl
@[simp] theorem tk105 : tk Try.prog 105 = some (false, 1) := by kernel_rfl
@[simp] theorem tk106 : tk Try.prog 106 = some (false, 1) := by kernel_rfl
@[simp] theorem tk107 : tk Try.prog 107 = some (false, 1) := by kernel_rfl
@[simp] theorem tk108 : tk Try.prog 108 = some (false, 1) := by kernel_rfl
@[simp] theorem tk109 : tk Try.prog 109 = some (false, 1) := by kernel_rfl
@[simp] theorem tk110 : tk Try.prog 110 = some (false, 1) := by kernel_rfl
@[simp] theorem tk111 : tk Try.prog 111 = some (false, 1) := by kernel_rfl
@[simp] theorem tk112 : tk Try.prog 112 = some (false, 1) := by kernel_rfl
@[simp] theorem tk113 : tk Try.prog 113 = some (false, 1) := by kernel_rfl
@[simp] theorem tk114 : tk Try.prog 114 = some (false, 1) := by kernel_rfl
@[simp] theorem tk115 : tk Try.prog 115 = some (false, 1) := by kernel_rfl
@[simp] theorem tk116 : tk Try.prog 116 = some (false, 1) := by kernel_rfl
@[simp] theorem tk117 : tk Try.prog 117 = some (false, 1) := by kernel_rfl
@[simp] theorem tk118 : tk Try.prog 118 = some (false, 1) := by kernel_rfl
@[simp] theorem tk119 : tk Try.prog 119 = some (false, 1) := by kernel_rfl
@[simp] theorem tstr119 : tstr Try.prog 119 = false := by kernel_rfl
@[simp] theorem tzero119 : tzero Try.prog 119 = some [.nil] := by kernel_rfl
@[simp] theorem tbyt119 : tbyt Try.prog 119 = false := by kernel_rfl
@[simp] theorem tel119 : tel Try.prog 119 = some (5, 40) := by kernel_rfl
@[simp] theorem tzeroE119 : tzeroE Try.prog 119 = some (5, 40, [.bool false, .int .i64 0, .int .i64 0, .int .i64 0, .int .i64 0]) := by kernel_rfl
@[simp] theorem tk120 : tk Try.prog 120 = some (true, 2) := by kernel_rfl
@[simp] theorem tzero120 : tzero Try.prog 120 = some [.nil, .int .i64 0] := by kernel_rfl
@[simp] theorem toff120_0 : toff Try.prog 120 0 = some 0 := by kernel_rfl
@[simp] theorem toff120_1 : toff Try.prog 120 1 = some 1 := by kernel_rfl
@[simp] theorem tplaces120 : tplaces Try.prog 120 = some ([(0, 1), (1, 1)], [.nil, .int .i64 0]) := by kernel_rfl
@[simp] theorem tk121 : tk Try.prog 121 = some (true, 2) := by kernel_rfl
@[simp] theorem tzero121 : tzero Try.prog 121 = some [.nil, .int .i64 0] := by kernel_rfl
@[simp] theorem toff121_0 : toff Try.prog 121 0 = some 0 := by kernel_rfl
@[simp] theorem toff121_1 : toff Try.prog 121 1 = some 1 := by kernel_rfl
@[simp] theorem tplaces121 : tplaces Try.prog 121 = some ([(0, 1), (1, 1)], [.nil, .int .i64 0]) := by kernel_rfl
@[simp] theorem tk122 : tk Try.prog 122 = some (false, 1) := by kernel_rfl
@[simp] theorem tk123 : tk Try.prog 123 = some (false, 1) := by kernel_rfl
@[simp] theorem tk124 : tk Try.prog 124 = some (false, 1) := by kernel_rfl
@[simp] theorem tk125 : tk Try.prog 125 = some (false, 1) := by kernel_rfl
@[simp] theorem tk126 : tk Try.prog 126 = some (false, 1) := by kernel_rfl
@[simp] theorem tk127 : tk Try.prog 127 = some (false, 1) := by kernel_rfl
@[simp] theorem tk129 : tk Try.prog 129 = some (false, 1) := by kernel_rfl
@[simp] theorem tk130 : tk Try.prog 130 = some (false, 1) := by kernel_rfl
@[simp] theorem tk131 : tk Try.prog 131 = some (true, 3) := by kernel_rfl
@[simp] theorem tzero131 : tzero Try.prog 131 = some [.int .i64 0, .int .i64 0, .int .i64 0] := by kernel_rfl
@[simp] theorem toff131_0 : toff Try.prog 131 0 = some 0 := by kernel_rfl
@[simp] theorem toff131_1 : toff Try.prog 131 1 = some 1 := by kernel_rfl
@[simp] theorem toff131_2 : toff Try.prog 131 2 = some 2 := by kernel_rfl
@[simp] theorem tsh131 : tsh Try.prog 131 = some [0, 0, 0] := by kernel_rfl
@[simp] theorem tplaces131 : tplaces Try.prog 131 = some ([(0, 1), (1, 1), (2, 1)], [.int .i64 0, .int .i64 0, .int .i64 0]) := by kernel_rfl
@[simp] theorem tk132 : tk Try.prog 132 = some (true, 3) := by kernel_rfl
@[simp] theorem tzero132 : tzero Try.prog 132 = some [.int .i64 0, .int .i64 0, .int .i64 0] := by kernel_rfl
@[simp] theorem toff132_0 : toff Try.prog 132 0 = some 0 := by kernel_rfl
@[simp] theorem toff132_1 : toff Try.prog 132 1 = some 1 := by kernel_rfl
@[simp] theorem toff132_2 : toff Try.prog 132 2 = some 2 := by kernel_rfl
@[simp] theorem tsh132 : tsh Try.prog 132 = some [0, 0, 0] := by kernel_rfl
@[simp] theorem tplaces132 : tplaces Try.prog 132 = some ([(0, 1), (1, 1), (2, 1)], [.int .i64 0, .int .i64 0, .int .i64 0]) := by kernel_rfl
@[simp] theorem tk133 : tk Try.prog 133 = some (true, 6) := by kernel_rfl
@[simp] theorem tzero133 : tzero Try.prog 133 = some [.bool false, .int .i64 0, .bool false, .int .i64 0, .int .i64 0, .int .i64 0] := by kernel_rfl
@[simp] theorem toff133_0 : toff Try.prog 133 0 = some 0 := by kernel_rfl
@[simp] theorem toff133_1 : toff Try.prog 133 1 = some 1 := by kernel_rfl
@[simp] theorem toff133_2 : toff Try.prog 133 2 = some 2 := by kernel_rfl
@[simp] theorem toff133_3 : toff Try.prog 133 3 = some 3 := by kernel_rfl
@[simp] theorem tplaces133 : tplaces Try.prog 133 = some ([(0, 1), (1, 1), (2, 1), (3, 3)], [.bool false, .int .i64 0, .bool false, .int .i64 0, .int .i64 0, .int .i64 0]) := by kernel_rfl
@[simp] theorem tk134 : tk Try.prog 134 = some (true, 6) := by kernel_rfl
@[simp] theorem tzero134 : tzero Try.prog 134 = some [.bool false, .int .i64 0, .bool false, .int .i64 0, .int .i64 0, .int .i64 0] := by kernel_rfl
@[simp] theorem toff134_0 : toff Try.prog 134 0 = some 0 := by kernel_rfl
@[simp] theorem toff134_1 : toff Try.prog 134 1 = some 1 := by kernel_rfl
@[simp] theorem toff134_2 : toff Try.prog 134 2 = some 2 := by kernel_rfl
@[simp] theorem toff134_3 : toff Try.prog 134 3 = some 3 := by kernel_rfl
@[simp] theorem tplaces134 : tplaces Try.prog 134 = some ([(0, 1), (1, 1), (2, 1), (3, 3)], [.bool false, .int .i64 0, .bool false, .int .i64 0, .int .i64 0, .int .i64 0]) := by kernel_rfl
@[simp] theorem tk135 : tk Try.prog 135 = some (false, 1) := by kernel_rfl
@[simp] theorem tk136 : tk Try.prog 136 = some (false, 1) := by kernel_rfl
@[simp] theorem tk137 : tk Try.prog 137 = some (false, 1) := by kernel_rfl
@[simp] theorem tk138 : tk Try.prog 138 = some (false, 1) := by kernel_rfl
@[simp] theorem tstr138 : tstr Try.prog 138 = false := by kernel_rfl
@[simp] theorem tzero138 : tzero Try.prog 138 = some [.nil] := by kernel_rfl
@[simp] theorem tbyt138 : tbyt Try.prog 138 = false := by kernel_rfl
@[simp] theorem tel138 : tel Try.prog 138 = some (3, 24) := by kernel_rfl
@[simp] theorem tzeroE138 : tzeroE Try.prog 138 = some (3, 24, [.int .i64 0, .int .i64 0, .int .i64 0]) := by kernel_rfl
@[simp] theorem tk139 : tk Try.prog 139 = some (true, 5) := by kernel_rfl
@[simp] theorem tzero139 : tzero Try.prog 139 = some [.int .i64 0, .nil, .nil, .nil, .bool false] := by kernel_rfl
@[simp] theorem toff139_0 : toff Try.prog 139 0 = some 0 := by kernel_rfl
@[simp] theorem toff139_1 : toff Try.prog 139 1 = some 1 := by kernel_rfl
@[simp] theorem toff139_2 : toff Try.prog 139 2 = some 2 := by kernel_rfl
@[simp] theorem toff139_3 : toff Try.prog 139 3 = some 3 := by kernel_rfl
@[simp] theorem toff139_4 : toff Try.prog 139 4 = some 4 := by kernel_rfl
@[simp] theorem tplaces139 : tplaces Try.prog 139 = some ([(0, 1), (1, 1), (2, 1), (3, 1), (4, 1)], [.int .i64 0, .nil, .nil, .nil, .bool false]) := by kernel_rfl
@[simp] theorem tk140 : tk Try.prog 140 = some (true, 5) := by kernel_rfl
@[simp] theorem tzero140 : tzero Try.prog 140 = some [.int .i64 0, .nil, .nil, .nil, .bool false] := by kernel_rfl
@[simp] theorem toff140_0 : toff Try.prog 140 0 = some 0 := by kernel_rfl
@[simp] theorem toff140_1 : toff Try.prog 140 1 = some 1 := by kernel_rfl
@[simp] theorem toff140_2 : toff Try.prog 140 2 = some 2 := by kernel_rfl
@[simp] theorem toff140_3 : toff Try.prog 140 3 = some 3 := by kernel_rfl
@[simp] theorem toff140_4 : toff Try.prog 140 4 = some 4 := by kernel_rfl
@[simp] theorem tplaces140 : tplaces Try.prog 140 = some ([(0, 1), (1, 1), (2, 1), (3, 1), (4, 1)], [.int .i64 0, .nil, .nil, .nil, .bool false]) := by kernel_rfl
@[simp] theorem tk141 : tk Try.prog 141 = some (false, 1) := by kernel_rfl
@[simp] theorem tk142 : tk Try.prog 142 = some (true, 2) := by kernel_rfl
@[simp] theorem tzero142 : tzero Try.prog 142 = some [.int .i64 0, .nil] := by kernel_rfl
@[simp] theorem toff142_0 : toff Try.prog 142 0 = some 0 := by kernel_rfl
@[simp] theorem toff142_1 : toff Try.prog 142 1 = some 1 := by kernel_rfl
@[simp] theorem tplaces142 : tplaces Try.prog 142 = some ([(0, 1), (1, 1)], [.int .i64 0, .nil]) := by kernel_rfl
@[simp] theorem tk143 : tk Try.prog 143 = some (true, 2) := by kernel_rfl
@[simp] theorem tzero143 : tzero Try.prog 143 = some [.int .i64 0, .nil] := by kernel_rfl
@[simp] theorem toff143_0 : toff Try.prog 143 0 = some 0 := by kernel_rfl
@[simp] theorem toff143_1 : toff Try.prog 143 1 = some 1 := by kernel_rfl
@[simp] theorem tplaces143 : tplaces Try.prog 143 = some ([(0, 1), (1, 1)], [.int .i64 0, .nil]) := by kernel_rfl
@[simp] theorem tk144 : tk Try.prog 144 = some (false, 1) := by kernel_rfl
@[simp] theorem tk145 : tk Try.prog 145 = some (true, 2) := by kernel_rfl
@[simp] theorem tzero145 : tzero Try.prog 145 = some [.int .i64 0, .nil] := by kernel_rfl
@[simp] theorem toff145_0 : toff Try.prog 145 0 = some 0 := by kernel_rfl
@[simp] theorem toff145_1 : toff Try.prog 145 1 = some 1 := by kernel_rfl
@[simp] theorem tplaces145 : tplaces Try.prog 145 = some ([(0, 1), (1, 1)], [.int .i64 0, .nil]) := by kernel_rfl
@[simp] theorem tk146 : tk Try.prog 146 = some (false, 1) := by kernel_rfl
@[simp] theorem tk147 : tk Try.prog 147 = some (false, 1) := by kernel_rfl
@[simp] theorem tk148 : tk Try.prog 148 = some (false, 1) := by kernel_rfl
@[simp] theorem tk149 : tk Try.prog 149 = some (false, 1) := by kernel_rfl
@[simp] theorem tk150 : tk Try.prog 150 = some (false, 1) := by kernel_rfl
@[simp] theorem tk151 : tk Try.prog 151 = some (false, 1) := by kernel_rfl
@[simp] theorem tstr151 : tstr Try.prog 151 = false := by kernel_rfl
@[simp] theorem tzero151 : tzero Try.prog 151 = some [.nil] := by kernel_rfl
@[simp] theorem tbyt151 : tbyt Try.prog 151 = false := by kernel_rfl
@[simp] theorem tel151 : tel Try.prog 151 = some (5, 40) := by kernel_rfl
@[simp] theorem tzeroE151 : tzeroE Try.prog 151 = some (5, 40, [.bool false, .int .i64 0, .int .i64 0, .int .i64 0, .int .i64 0]) := by kernel_rfl
@[simp] theorem tk152 : tk Try.prog 152 = some (true, 2) := by kernel_rfl
@[simp] theorem tzero152 : tzero Try.prog 152 = some [.nil, .int .i64 0] := by kernel_rfl
@[simp] theorem toff152_0 : toff Try.prog 152 0 = some 0 := by kernel_rfl
@[simp] theorem toff152_1 : toff Try.prog 152 1 = some 1 := by kernel_rfl
@[simp] theorem tplaces152 : tplaces Try.prog 152 = some ([(0, 1), (1, 1)], [.nil, .int .i64 0]) := by kernel_rfl
@[simp] theorem tk153 : tk Try.prog 153 = some (true, 2) := by kernel_rfl
@[simp] theorem tzero153 : tzero Try.prog 153 = some [.nil, .int .i64 0] := by kernel_rfl
@[simp] theorem toff153_0 : toff Try.prog 153 0 = some 0 := by kernel_rfl
@[simp] theorem toff153_1 : toff Try.prog 153 1 = some 1 := by kernel_rfl
@[simp] theorem tplaces153 : tplaces Try.prog 153 = some ([(0, 1), (1, 1)], [.nil, .int .i64 0]) := by kernel_rfl
@[simp] theorem tk154 : tk Try.prog 154 = some (false, 1) := by kernel_rfl
@[simp] theorem tk155 : tk Try.prog 155 = some (false, 1) := by kernel_rfl
@[simp] theorem tstr155 : tstr Try.prog 155 = false := by kernel_rfl
@[simp] theorem tzero155 : tzero Try.prog 155 = some [.nil] := by kernel_rfl
@[simp] theorem tbyt155 : tbyt Try.prog 155 = false := by kernel_rfl
@[simp] theorem tel155 : tel Try.prog 155 = some (4, 32) := by kernel_rfl
@[simp] theorem tzeroE155 : tzeroE Try.prog 155 = some (4, 32, [.int .i64 0, .int .i64 0, .int .i64 0, .int .i64 0]) := by kernel_rfl
@[simp] theorem tk156 : tk Try.prog 156 = some (true, 1) := by kernel_rfl
@[simp] theorem tzero156 : tzero Try.prog 156 = some [.nil] := by kernel_rfl
@[simp] theorem toff156_0 : toff Try.prog 156 0 = some 0 := by kernel_rfl
@[simp] theorem tplaces156 : tplaces Try.prog 156 = some ([(0, 1)], [.nil]) := by kernel_rfl
@[simp] theorem tk157 : tk Try.prog 157 = some (true, 1) := by kernel_rfl
@[simp] theorem tzero157 : tzero Try.prog 157 = some [.nil] := by kernel_rfl
@[simp] theorem toff157_0 : toff Try.prog 157 0 = some 0 := by kernel_rfl
@[simp] theorem tplaces157 : tplaces Try.prog 157 = some ([(0, 1)], [.nil]) := by kernel_rfl
@[simp] theorem tk158 : tk Try.prog 158 = some (false, 1) := by kernel_rfl
@[simp] theorem tk159 : tk Try.prog 159 = some (false, 1) := by kernel_rfl
@[simp] theorem tstr159 : tstr Try.prog 159 = false := by kernel_rfl
@[simp] theorem tzero159 : tzero Try.prog 159 = some [.nil] := by kernel_rfl
@[simp] theorem tbyt159 : tbyt Try.prog 159 = false := by kernel_rfl
@[simp] theorem tel159 : tel Try.prog 159 = some (4, 32) := by kernel_rfl
@[simp] theorem tzeroE159 : tzeroE Try.prog 159 = some (4, 32, [.int .i64 0, .int .i64 0, .int .i64 0, .int .i64 0]) := by kernel_rfl
@[simp] theorem tk160 : tk Try.prog 160 = some (true, 1) := by kernel_rfl
@[simp] theorem tzero160 : tzero Try.prog 160 = some [.nil] := by kernel_rfl
@[simp] theorem toff160_0 : toff Try.prog 160 0 = some 0 := by kernel_rfl
@[simp] theorem tplaces160 : tplaces Try.prog 160 = some ([(0, 1)], [.nil]) := by kernel_rfl
@[simp] theorem tk161 : tk Try.prog 161 = some (true, 1) := by kernel_rfl
@[simp] theorem tzero161 : tzero Try.prog 161 = some [.nil] := by kernel_rfl
@[simp] theorem toff161_0 : toff Try.prog 161 0 = some 0 := by kernel_rfl
@[simp] theorem tplaces161 : tplaces Try.prog 161 = some ([(0, 1)], [.nil]) := by kernel_rfl
@[simp] theorem tk162 : tk Try.prog 162 = some (false, 1) := by kernel_rfl
@[simp] theorem tk163 : tk Try.prog 163 = some (false, 1) := by kernel_rfl
@[simp] theorem tk164 : tk Try.prog 164 = some (false, 1) := by kernel_rfl
@[simp] theorem tk165 : tk Try.prog 165 = some (false, 1) := by kernel_rfl
@[simp] theorem tk166 : tk Try.prog 166 = some (false, 1) := by kernel_rfl
@[simp] theorem tk167 : tk Try.prog 167 = some (false, 1) := by kernel_rfl
@[simp] theorem tk168 : tk Try.prog 168 = some (false, 1) := by kernel_rfl
@[simp] theorem tk169 : tk Try.prog 169 = some (true, 4) := by kernel_rfl
@[simp] theorem tzero169 : tzero Try.prog 169 = some [.int .i64 0, .int .i64 0, .int .i64 0, .bool false] := by kernel_rfl
@[simp] theorem toff169_0 : toff Try.prog 169 0 = some 0 := by kernel_rfl
@[simp] theorem toff169_1 : toff Try.prog 169 1 = some 1 := by kernel_rfl
@[simp] theorem toff169_2 : toff Try.prog 169 2 = some 2 := by kernel_rfl
@[simp] theorem toff169_3 : toff Try.prog 169 3 = some 3 := by kernel_rfl
@[simp] theorem tsh169 : tsh Try.prog 169 = some [0, 0, 0, 1] := by kernel_rfl
@[simp] theorem tplaces169 : tplaces Try.prog 169 = some ([(0, 1), (1, 1), (2, 1), (3, 1)], [.int .i64 0, .int .i64 0, .int .i64 0, .bool false]) := by kernel_rfl
@[simp] theorem tk170 : tk Try.prog 170 = some (false, 1) := by kernel_rfl
@[simp] theorem tk171 : tk Try.prog 171 = some (false, 1) := by kernel_rfl
@[simp] theorem tk172 : tk Try.prog 172 = some (false, 1) := by kernel_rfl
@[simp] theorem tk173 : tk Try.prog 173 = some (false, 1) := by kernel_rfl
@[simp] theorem tk174 : tk Try.prog 174 = some (false, 1) := by kernel_rfl
@[simp] theorem tk175 : tk Try.prog 175 = some (false, 1) := by kernel_rfl
@[simp] theorem tk176 : tk Try.prog 176 = some (false, 1) := by kernel_rfl
@[simp] theorem tk177 : tk Try.prog 177 = some (false, 1) := by kernel_rfl
@[simp] theorem tk178 : tk Try.prog 178 = some (false, 1) := by kernel_rfl
@[simp] theorem tk179 : tk Try.prog 179 = some (false, 1) := by kernel_rfl
@[simp] theorem tk180 : tk Try.prog 180 = some (false, 1) := by kernel_rfl
@[simp] theorem tk181 : tk Try.prog 181 = some (false, 1) := by kernel_rfl
@[simp] theorem tk182 : tk Try.prog 182 = some (false, 1) := by kernel_rfl
@[simp] theorem tk183 : tk Try.prog 183 = some (false, 1) := by kernel_rfl
@[simp] theorem tk184 : tk Try.prog 184 = some (false, 1) := by kernel_rfl
@[simp] theorem tk185 : tk Try.prog 185 = some (false, 1) := by kernel_rfl
@[simp] theorem tk186 : tk Try.prog 186 = some (false, 1) := by kernel_rfl
@[simp] theorem tk187 : tk Try.prog 187 = some (false, 1) := by kernel_rfl
@[simp] theorem tk188 : tk Try.prog 188 = some (false, 1) := by kernel_rfl
@[simp] theorem tk189 : tk Try.prog 189 = some (false, 1) := by kernel_rfl
@[simp] theorem tk190 : tk Try.prog 190 = some (false, 1) := by kernel_rfl
@[simp] theorem tk191 : tk Try.prog 191 = some (false, 1) := by kernel_rfl
@[simp] theorem tk192 : tk Try.prog 192 = some (false, 1) := by kernel_rfl
@[simp] theorem tk193 : tk Try.prog 193 = some (false, 1) := by kernel_rfl
@[simp] theorem tk194 : tk Try.prog 194 = some (false, 1) := by kernel_rfl
@[simp] theorem tk195 : tk Try.prog 195 = some (false, 1) := by kernel_rfl
@[simp] theorem tk196 : tk Try.prog 196 = some (false, 1) := by kernel_rfl
@[simp] theorem tk197 : tk Try.prog 197 = some (true, 3) := by kernel_rfl
@[simp] theorem tzero197 : tzero Try.prog 197 = some [.int .i64 0, .int .i64 0, .int .i64 0] := by kernel_rfl
@[simp] theorem toff197_0 : toff Try.prog 197 0 = some 0 := by kernel_rfl
@[simp] theorem toff197_1 : toff Try.prog 197 1 = some 1 := by kernel_rfl
@[simp] theorem toff197_2 : toff Try.prog 197 2 = some 2 := by kernel_rfl
@[simp] theorem tsh197 : tsh Try.prog 197 = some [0, 0, 0] := by kernel_rfl
@[simp] theorem tplaces197 : tplaces Try.prog 197 = some ([(0, 1), (1, 1), (2, 1)], [.int .i64 0, .int .i64 0, .int .i64 0]) := by kernel_rfl
@[simp] theorem tk198 : tk Try.prog 198 = some (false, 1) := by kernel_rfl
@[simp] theorem tk199 : tk Try.prog 199 = some (false, 1) := by kernel_rfl
@[simp] theorem tk200 : tk Try.prog 200 = some (true, 4) := by kernel_rfl
@[simp] theorem tzero200 : tzero Try.prog 200 = some [.int .i64 0, .int .i64 0, .int .i64 0, .int .i64 0] := by kernel_rfl
@[simp] theorem toff200_0 : toff Try.prog 200 0 = some 0 := by kernel_rfl
@[simp] theorem toff200_1 : toff Try.prog 200 1 = some 1 := by kernel_rfl
@[simp] theorem toff200_2 : toff Try.prog 200 2 = some 2 := by kernel_rfl
@[simp] theorem toff200_3 : toff Try.prog 200 3 = some 3 := by kernel_rfl
@[simp] theorem tsh200 : tsh Try.prog 200 = some [0, 0, 0, 0] := by kernel_rfl
@[simp] theorem tplaces200 : tplaces Try.prog 200 = some ([(0, 1), (1, 1), (2, 1), (3, 1)], [.int .i64 0, .int .i64 0, .int .i64 0, .int .i64 0]) := by kernel_rfl
@[simp] theorem tk201 : tk Try.prog 201 = some (false, 1) := by kernel_rfl
@[simp] theorem tk202 : tk Try.prog 202 = some (false, 1) := by kernel_rfl
@[simp] theorem tk203 : tk Try.prog 203 = some (false, 1) := by kernel_rfl
@[simp] theorem tk204 : tk Try.prog 204 = some (false, 1) := by kernel_rfl
@[simp] theorem tk210 : tk Try.prog 210 = some (false, 1) := by kernel_rfl
@[simp] theorem tk211 : tk Try.prog 211 = some (false, 1) := by kernel_rfl
@[simp] theorem tint211 : tint Try.prog 211 = some .u32 := by kernel_rfl
@[simp] theorem tstr211 : tstr Try.prog 211 = false := by kernel_rfl
@[simp] theorem tzero211 : tzero Try.prog 211 = some [.int .u32 0] := by kernel_rfl
@[simp] theorem tbyt211 : tbyt Try.prog 211 = false := by kernel_rfl
@[simp] theorem tk214 : tk Try.prog 214 = some (false, 1) := by kernel_rfl
@[simp] theorem tk215 : tk Try.prog 215 = some (false, 1) := by kernel_rfl
@[simp] theorem tk220 : tk Try.prog 220 = some (false, 1) := by kernel_rfl
end HT
