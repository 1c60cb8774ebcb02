import Derived.Test.YtfdaepchofckkaaG3
import Derived.Test.YtfdaepchofckkaaProg
import Derived.KernelRfl
import Derived.Test.YtfdaepchofckkaaG2b
/-
  My own texts (road H): HZT0 HZT1.
-/
namespace HT
open Go Go.Proofs HK
@[simp] theorem tk1 : tk Try.prog 1 = some (false, 1) := by kernel_rfl
@[simp] theorem tk2 : tk Try.prog 2 = some (false, 1) := by kernel_rfl
@[simp] theorem tint2 : tint Try.prog 2 = some .i64 := by kernel_rfl
@[simp] theorem tstr2 : tstr Try.prog 2 = false := by kernel_rfl
@[simp] theorem tzero2 : tzero Try.prog 2 = some [.int .i64 0] := by kernel_rfl
@[simp] theorem tbyt2 : tbyt Try.prog 2 = false := by kernel_rfl
@[simp] theorem tk3 : tk Try.prog 3 = some (false, 1) := by kernel_rfl
@[simp] theorem tint3 : tint Try.prog 3 = some .i64 := by kernel_rfl
@[simp] theorem tstr3 : tstr Try.prog 3 = false := by kernel_rfl
@[simp] theorem tzero3 : tzero Try.prog 3 = some [.int .i64 0] := by kernel_rfl
@[simp] theorem tbyt3 : tbyt Try.prog 3 = false := by kernel_rfl
@[simp] theorem tk4 : tk Try.prog 4 = some (false, 1) := by kernel_rfl
@[simp] theorem tstr4 : tstr Try.prog 4 = false := by kernel_rfl
@[simp] theorem tzero4 : tzero Try.prog 4 = some [.bool false] := by kernel_rfl
@[simp] theorem tk5 : tk Try.prog 5 = some (false, 1) := by kernel_rfl
@[simp] theorem tint5 : tint Try.prog 5 = some .u8 := by kernel_rfl
@[simp] theorem tstr5 : tstr Try.prog 5 = false := by kernel_rfl
@[simp] theorem tzero5 : tzero Try.prog 5 = some [.int .u8 0] := by kernel_rfl
@[simp] theorem tbyt5 : tbyt Try.prog 5 = false := by kernel_rfl
@[simp] theorem tk9 : tk Try.prog 9 = some (false, 1) := by kernel_rfl
@[simp] theorem tstr9 : tstr Try.prog 9 = true := by kernel_rfl
@[simp] theorem tzero9 : tzero Try.prog 9 = some [.str ⟨#[]⟩] := by kernel_rfl
@[simp] theorem tbyt9 : tbyt Try.prog 9 = false := by kernel_rfl
@[simp] theorem tk12 : tk Try.prog 12 = some (false, 1) := by kernel_rfl
@[simp] theorem tint12 : tint Try.prog 12 = some .u64 := by kernel_rfl
@[simp] theorem tstr12 : tstr Try.prog 12 = false := by kernel_rfl
@[simp] theorem tzero12 : tzero Try.prog 12 = some [.int .u64 0] := by kernel_rfl
@[simp] theorem tbyt12 : tbyt Try.prog 12 = false := by kernel_rfl
@[simp] theorem tk13 : tk Try.prog 13 = some (true, 2) := by kernel_rfl
@[simp] theorem tzero13 : tzero Try.prog 13 = some [.str ⟨#[]⟩, .int .u64 0] := by kernel_rfl
@[simp] theorem toff13_0 : toff Try.prog 13 0 = some 0 := by kernel_rfl
@[simp] theorem toff13_1 : toff Try.prog 13 1 = some 1 := by kernel_rfl
@[simp] theorem tplaces13 : tplaces Try.prog 13 = some ([(0, 1), (1, 1)], [.str ⟨#[]⟩, .int .u64 0]) := by kernel_rfl
@[simp] theorem tk20 : tk Try.prog 20 = some (false, 1) := by kernel_rfl
@[simp] theorem tk21 : tk Try.prog 21 = some (false, 1) := by kernel_rfl
@[simp] theorem tint21 : tint Try.prog 21 = some .i32 := by kernel_rfl
@[simp] theorem tstr21 : tstr Try.prog 21 = false := by kernel_rfl
@[simp] theorem tzero21 : tzero Try.prog 21 = some [.int .i32 0] := by kernel_rfl
@[simp] theorem tbyt21 : tbyt Try.prog 21 = false := by kernel_rfl
@[simp] theorem tk22 : tk Try.prog 22 = some (false, 1) := by kernel_rfl
@[simp] theorem tstr22 : tstr Try.prog 22 = false := by kernel_rfl
@[simp] theorem tzero22 : tzero Try.prog 22 = some [.nil] := by kernel_rfl
@[simp] theorem tbyt22 : tbyt Try.prog 22 = false := by kernel_rfl
@[simp] theorem tel22 : tel Try.prog 22 = some (1, 8) := by kernel_rfl
@[simp] theorem tzeroE22 : tzeroE Try.prog 22 = some (1, 8, [.int .i64 0]) := by kernel_rfl
@[simp] theorem tk23 : tk Try.prog 23 = some (false, 1) := by kernel_rfl
@[simp] theorem tstr23 : tstr Try.prog 23 = false := by kernel_rfl
@[simp] theorem tzero23 : tzero Try.prog 23 = some [.nil] := by kernel_rfl
@[simp] theorem tbyt23 : tbyt Try.prog 23 = false := by kernel_rfl
@[simp] theorem tel23 : tel Try.prog 23 = some (2, 32) := by kernel_rfl
@[simp] theorem tzeroE23 : tzeroE Try.prog 23 = some (2, 32, [.nil, .int .i64 0]) := by kernel_rfl
@[simp] theorem tk24 : tk Try.prog 24 = some (false, 1) := by kernel_rfl
@[simp] theorem tstr24 : tstr Try.prog 24 = false := by kernel_rfl
@[simp] theorem tzero24 : tzero Try.prog 24 = some [.nil] := by kernel_rfl
@[simp] theorem tbyt24 : tbyt Try.prog 24 = false := by kernel_rfl
@[simp] theorem tel24 : tel Try.prog 24 = some (1, 24) := by kernel_rfl
@[simp] theorem tzeroE24 : tzeroE Try.prog 24 = some (1, 24, [.nil]) := by kernel_rfl
@[simp] theorem tk25 : tk Try.prog 25 = some (true, 4) := by kernel_rfl
@[simp] theorem tzero25 : tzero Try.prog 25 = some [.nil, .int .i64 0, .nil, .nil] := by kernel_rfl
@[simp] theorem toff25_0 : toff Try.prog 25 0 = some 0 := by kernel_rfl
@[simp] theorem toff25_1 : toff Try.prog 25 1 = some 1 := by kernel_rfl
@[simp] theorem toff25_2 : toff Try.prog 25 2 = some 2 := by kernel_rfl
@[simp] theorem toff25_3 : toff Try.prog 25 3 = some 3 := by kernel_rfl
@[simp] theorem tplaces25 : tplaces Try.prog 25 = some ([(0, 1), (1, 1), (2, 1), (3, 1)], [.nil, .int .i64 0, .nil, .nil]) := by kernel_rfl
@[simp] theorem tk26 : tk Try.prog 26 = some (true, 4) := by kernel_rfl
@[simp] theorem tzero26 : tzero Try.prog 26 = some [.nil, .int .i64 0, .nil, .nil] := by kernel_rfl
@[simp] theorem toff26_0 : toff Try.prog 26 0 = some 0 := by kernel_rfl
@[simp] theorem toff26_1 : toff Try.prog 26 1 = some 1 := by kernel_rfl
@[simp] theorem toff26_2 : toff Try.prog 26 2 = some 2 := by kernel_rfl
@[simp] theorem toff26_3 : toff Try.prog 26 3 = some 3 := by kernel_rfl
@[simp] theorem tplaces26 : tplaces Try.prog 26 = some ([(0, 1), (1, 1), (2, 1), (3, 1)], [.nil, .int .i64 0, .nil, .nil]) := by kernel_rfl
@[simp] theorem tk27 : tk Try.prog 27 = some (false, 1) := by kernel_rfl
@[simp] theorem tstr27 : tstr Try.prog 27 = false := by kernel_rfl
@[simp] theorem tzero27 : tzero Try.prog 27 = some [.nil] := by kernel_rfl
@[simp] theorem tbyt27 : tbyt Try.prog 27 = false := by kernel_rfl
@[simp] theorem tel27 : tel Try.prog 27 = some (4, 32) := by kernel_rfl
@[simp] theorem tzeroE27 : tzeroE Try.prog 27 = some (4, 32, [.int .i64 0, .int .i64 0, .int .i64 0, .int .i64 0]) := by kernel_rfl
@[simp] theorem tk28 : tk Try.prog 28 = some (false, 1) := by kernel_rfl
@[simp] theorem tk29 : tk Try.prog 29 = some (false, 1) := by kernel_rfl
@[simp] theorem tk30 : tk Try.prog 30 = some (false, 1) := by kernel_rfl
@[simp] theorem tk31 : tk Try.prog 31 = some (false, 1) := by kernel_rfl
@[simp] theorem tstr31 : tstr Try.prog 31 = false := by kernel_rfl
@[simp] theorem tzero31 : tzero Try.prog 31 = some [.nil] := by kernel_rfl
@[simp] theorem tbyt31 : tbyt Try.prog 31 = false := by kernel_rfl
@[simp] theorem tel31 : tel Try.prog 31 = some (2, 32) := by kernel_rfl
@[simp] theorem tzeroE31 : tzeroE Try.prog 31 = some (2, 32, [.nil, .int .i64 0]) := by kernel_rfl
@[simp] theorem tk32 : tk Try.prog 32 = some (false, 1) := by kernel_rfl
@[simp] theorem tstr32 : tstr Try.prog 32 = false := by kernel_rfl
@[simp] theorem tzero32 : tzero Try.prog 32 = some [.nil] := by kernel_rfl
@[simp] theorem tbyt32 : tbyt Try.prog 32 = false := by kernel_rfl
@[simp] theorem tel32 : tel Try.prog 32 = some (1, 24) := by kernel_rfl
@[simp] theorem tzeroE32 : tzeroE Try.prog 32 = some (1, 24, [.nil]) := by kernel_rfl
@[simp] theorem tk33 : tk Try.prog 33 = some (true, 4) := by kernel_rfl
@[simp] theorem tzero33 : tzero Try.prog 33 = some [.nil, .int .i64 0, .nil, .nil] := by kernel_rfl
@[simp] theorem toff33_0 : toff Try.prog 33 0 = some 0 := by kernel_rfl
@[simp] theorem toff33_1 : toff Try.prog 33 1 = some 1 := by kernel_rfl
@[simp] theorem toff33_2 : toff Try.prog 33 2 = some 2 := by kernel_rfl
@[simp] theorem toff33_3 : toff Try.prog 33 3 = some 3 := by kernel_rfl
@[simp] theorem tplaces33 : tplaces Try.prog 33 = some ([(0, 1), (1, 1), (2, 1), (3, 1)], [.nil, .int .i64 0, .nil, .nil]) := by kernel_rfl
@[simp] theorem tk34 : tk Try.prog 34 = some (true, 4) := by kernel_rfl
@[simp] theorem tzero34 : tzero Try.prog 34 = some [.nil, .int .i64 0, .nil, .nil] := by kernel_rfl
@[simp] theorem toff34_0 : toff Try.prog 34 0 = some 0 := by kernel_rfl
@[simp] theorem toff34_1 : toff Try.prog 34 1 = some 1 := by kernel_rfl
@[simp] theorem toff34_2 : toff Try.prog 34 2 = some 2 := by kernel_rfl
@[simp] theorem toff34_3 : toff Try.prog 34 3 = some 3 := by kernel_rfl
@[simp] theorem tplaces34 : tplaces Try.prog 34 = some ([(0, 1), (1, 1), (2, 1), (3, 1)], [.nil, .int .i64 0, .nil, .nil]) := by kernel_rfl
@[simp] theorem tk35 : tk Try.prog 35 = some (false, 1) := by kernel_rfl
@[simp] theorem tk36 : tk Try.prog 36 = some (false, 1) := by kernel_rfl
@[simp] theorem tstr36 : tstr Try.prog 36 = false := by kernel_rfl
@[simp] theorem tzero36 : tzero Try.prog 36 = some [.nil] := by kernel_rfl
@[simp] theorem tbyt36 : tbyt Try.prog 36 = false := by kernel_rfl
@[simp] theorem tel36 : tel Try.prog 36 = some (4, 32) := by kernel_rfl
@[simp] theorem tzeroE36 : tzeroE Try.prog 36 = some (4, 32, [.int .i64 0, .int .i64 0, .int .i64 0, .int .i64 0]) := by kernel_rfl
@[simp] theorem tk37 : tk Try.prog 37 = some (false, 1) := by kernel_rfl
@[simp] theorem tk38 : tk Try.prog 38 = some (false, 1) := by kernel_rfl
@[simp] theorem tk39 : tk Try.prog 39 = some (false, 1) := by kernel_rfl
@[simp] theorem tk40 : tk Try.prog 40 = some (false, 1) := by kernel_rfl
@[simp] theorem tk41 : tk Try.prog 41 = some (false, 1) := by kernel_rfl
@[simp] theorem tk42 : tk Try.prog 42 = some (false, 1) := by kernel_rfl
@[simp] theorem tk43 : tk Try.prog 43 = some (false, 1) := by kernel_rfl
@[simp] theorem tk44 : tk Try.prog 44 = some (false, 1) := by kernel_rfl
@[simp] theorem tk45 : tk Try.prog 45 = some (false, 1) := by kernel_rfl
@[simp] theorem tk46 : tk Try.prog 46 = some (false, 1) := by kernel_rfl
@[simp] theorem tk47 : tk Try.prog 47 = some (false, 1) := by kernel_rfl
@[simp] theorem tk48 : tk Try.prog 48 = some (false, 1) := by kernel_rfl
@[simp] theorem tk49 : tk Try.prog 49 = some (false, 1) := by kernel_rfl
@[simp] theorem tk50 : tk Try.prog 50 = some (true, 4) := by kernel_rfl
@[simp] theorem tzero50 : tzero Try.prog 50 = some [.int .i64 0, .int .i64 0, .int .i64 0, .int .i64 0] := by kernel_rfl
@[simp] theorem toff50_0 : toff Try.prog 50 0 = some 0 := by kernel_rfl
@[simp] theorem toff50_1 : toff Try.prog 50 1 = some 1 := by kernel_rfl
@[simp] theorem toff50_2 : toff Try.prog 50 2 = some 2 := by kernel_rfl
@[simp] theorem toff50_3 : toff Try.prog 50 3 = some 3 := by kernel_rfl
@[simp] theorem tsh50 : tsh Try.prog 50 = some [0, 0, 0, 0] := by kernel_rfl
@[simp] theorem tplaces50 : tplaces Try.prog 50 = some ([(0, 1), (1, 1), (2, 1), (3, 1)], [.int .i64 0, .int .i64 0, .int .i64 0, .int .i64 0]) := by kernel_rfl
@[simp] theorem tk51 : tk Try.prog 51 = some (true, 4) := by kernel_rfl
@[simp] theorem tzero51 : tzero Try.prog 51 = some [.int .i64 0, .int .i64 0, .int .i64 0, .int .i64 0] := by kernel_rfl
@[simp] theorem toff51_0 : toff Try.prog 51 0 = some 0 := by kernel_rfl
@[simp] theorem toff51_1 : toff Try.prog 51 1 = some 1 := by kernel_rfl
@[simp] theorem toff51_2 : toff Try.prog 51 2 = some 2 := by kernel_rfl
@[simp] theorem toff51_3 : toff Try.prog 51 3 = some 3 := by kernel_rfl
@[simp] theorem tsh51 : tsh Try.prog 51 = some [0, 0, 0, 0] := by kernel_rfl
@[simp] theorem tplaces51 : tplaces Try.prog 51 = some ([(0, 1), (1, 1), (2, 1), (3, 1)], [.int .i64 0, .int .i64 0, .int .i64 0, .int .i64 0]) := by kernel_rfl
@[simp] theorem tk52 : tk Try.prog 52 = some (false, 1) := by kernel_rfl
@[simp] theorem tk53 : tk Try.prog 53 = some (true, 4) := by kernel_rfl
@[simp] theorem tzero53 : tzero Try.prog 53 = some [.int .i64 0, .int .i64 0, .int .i64 0, .int .i64 0] := by kernel_rfl
@[simp] theorem toff53_0 : toff Try.prog 53 0 = some 0 := by kernel_rfl
@[simp] theorem toff53_1 : toff Try.prog 53 1 = some 1 := by kernel_rfl
@[simp] theorem toff53_2 : toff Try.prog 53 2 = some 2 := by kernel_rfl
@[simp] theorem toff53_3 : toff Try.prog 53 3 = some 3 := by kernel_rfl
@[simp] theorem tsh53 : tsh Try.prog 53 = some [0, 0, 0, 0] := by kernel_rfl
@[simp] theorem tplaces53 : tplaces Try.prog 53 = some ([(0, 1), (1, 1), (2, 1), (3, 1)], [.int .i64 0, .int .i64 0, .int .i64 0, .int .i64 0]) := by kernel_rfl
@[simp] theorem tk54 : tk Try.prog 54 = some (false, 1) := by kernel_rfl
@[simp] theorem tk55 : tk Try.prog 55 = some (false, 1) := by kernel_rfl
@[simp] theorem tk56 : tk Try.prog 56 = some (false, 1) := by kernel_rfl
@[simp] theorem tk57 : tk Try.prog 57 = some (false, 1) := by kernel_rfl
@[simp] theorem tk58 : tk Try.prog 58 = some (false, 1) := by kernel_rfl
@[simp] theorem tk59 : tk Try.prog 59 = some (false, 1) := by kernel_rfl
@[simp] theorem tk60 : tk Try.prog 60 = some (false, 1) := by kernel_rfl
@[simp] theorem tstr60 : tstr Try.prog 60 = false := by kernel_rfl
@[simp] theorem tzero60 : tzero Try.prog 60 = some [.nil] := by kernel_rfl
@[simp] theorem tbyt60 : tbyt Try.prog 60 = false := by kernel_rfl
@[simp] theorem tel60 : tel Try.prog 60 = some (5, 40) := by kernel_rfl
@[simp] theorem tzeroE60 : tzeroE Try.prog 60 = some (5, 40, [.bool false, .int .i64 0, .int .i64 0, .int .i64 0, .int .i64 0]) := by kernel_rfl
@[simp] theorem tk61 : tk Try.prog 61 = some (true, 2) := by kernel_rfl
@[simp] theorem tzero61 : tzero Try.prog 61 = some [.nil, .int .i64 0] := by kernel_rfl
@[simp] theorem toff61_0 : toff Try.prog 61 0 = some 0 := by kernel_rfl
@[simp] theorem toff61_1 : toff Try.prog 61 1 = some 1 := by kernel_rfl
@[simp] theorem tplaces61 : tplaces Try.prog 61 = some ([(0, 1), (1, 1)], [.nil, .int .i64 0]) := by kernel_rfl
@[simp] theorem tk62 : tk Try.prog 62 = some (true, 2) := by kernel_rfl
@[simp] theorem tzero62 : tzero Try.prog 62 = some [.nil, .int .i64 0] := by kernel_rfl
@[simp] theorem toff62_0 : toff Try.prog 62 0 = some 0 := by kernel_rfl
@[simp] theorem toff62_1 : toff Try.prog 62 1 = some 1 := by kernel_rfl
@[simp] theorem tplaces62 : tplaces Try.prog 62 = some ([(0, 1), (1, 1)], [.nil, .int .i64 0]) := by kernel_rfl
@[simp] theorem tk63 : tk Try.prog 63 = some (false, 1) := by kernel_rfl
@[simp] theorem tk64 : tk Try.prog 64 = some (false, 1) := by kernel_rfl
@[simp] theorem tstr64 : tstr Try.prog 64 = false := by kernel_rfl
@[simp] theorem tzero64 : tzero Try.prog 64 = some [.nil] := by kernel_rfl
@[simp] theorem tbyt64 : tbyt Try.prog 64 = false := by kernel_rfl
@[simp] theorem tel64 : tel Try.prog 64 = some (4, 32) := by kernel_rfl
@[simp] theorem tzeroE64 : tzeroE Try.prog 64 = some (4, 32, [.int .i64 0, .int .i64 0, .int .i64 0, .int .i64 0]) := by kernel_rfl
@[simp] theorem tk65 : tk Try.prog 65 = some (true, 1) := by kernel_rfl
@[simp] theorem tzero65 : tzero Try.prog 65 = some [.nil] := by kernel_rfl
@[simp] theorem toff65_0 : toff Try.prog 65 0 = some 0 := by kernel_rfl
@[simp] theorem tplaces65 : tplaces Try.prog 65 = some ([(0, 1)], [.nil]) := by kernel_rfl
@[simp] theorem tk66 : tk Try.prog 66 = some (true, 1) := by kernel_rfl
@[simp] theorem tzero66 : tzero Try.prog 66 = some [.nil] := by kernel_rfl
@[simp] theorem toff66_0 : toff Try.prog 66 0 = some 0 := by kernel_rfl
@[simp] theorem tplaces66 : tplaces Try.prog 66 = some ([(0, 1)], [.nil]) := by kernel_rfl
@[simp] theorem tk67 : tk Try.prog 67 = some (false, 1) := by kernel_rfl
@[simp] theorem tstr67 : tstr Try.prog 67 = false := by kernel_rfl
@[simp] theorem tzero67 : tzero Try.prog 67 = some [.nil] := by kernel_rfl
@[simp] theorem tbyt67 : tbyt Try.prog 67 = false := by kernel_rfl
@[simp] theorem tel67 : tel Try.prog 67 = some (1, 1) := by kernel_rfl
@[simp] theorem tzeroE67 : tzeroE Try.prog 67 = some (1, 1, [.bool false]) := by kernel_rfl
@[simp] theorem tk68 : tk Try.prog 68 = some (false, 1) := by kernel_rfl
@[simp] theorem tstr68 : tstr Try.prog 68 = false := by kernel_rfl
@[simp] theorem tzero68 : tzero Try.prog 68 = some [.nil] := by kernel_rfl
@[simp] theorem tbyt68 : tbyt Try.prog 68 = false := by kernel_rfl
@[simp] theorem tel68 : tel Try.prog 68 = some (5, 40) := by kernel_rfl
@[simp] theorem tzeroE68 : tzeroE Try.prog 68 = some (5, 40, [.bool false, .int .i64 0, .int .i64 0, .int .i64 0, .int .i64 0]) := by kernel_rfl
@[simp] theorem tk69 : tk Try.prog 69 = some (true, 2) := by kernel_rfl
@[simp] theorem tzero69 : tzero Try.prog 69 = some [.nil, .int .i64 0] := by kernel_rfl
@[simp] theorem toff69_0 : toff Try.prog 69 0 = some 0 := by kernel_rfl
@[simp] theorem toff69_1 : toff Try.prog 69 1 = some 1 := by kernel_rfl
@[simp] theorem tplaces69 : tplaces Try.prog 69 = some ([(0, 1), (1, 1)], [.nil, .int .i64 0]) := by kernel_rfl
@[simp] theorem tk70 : tk Try.prog 70 = some (true, 2) := by kernel_rfl
@[simp] theorem tzero70 : tzero Try.prog 70 = some [.nil, .int .i64 0] := by kernel_rfl
@[simp] theorem toff70_0 : toff Try.prog 70 0 = some 0 := by kernel_rfl
@[simp] theorem toff70_1 : toff Try.prog 70 1 = some 1 := by kernel_rfl
@[simp] theorem tplaces70 : tplaces Try.prog 70 = some ([(0, 1), (1, 1)], [.nil, .int .i64 0]) := by kernel_rfl
@[simp] theorem tk71 : tk Try.prog 71 = some (false, 1) := by kernel_rfl
@[simp] theorem tk72 : tk Try.prog 72 = some (false, 1) := by kernel_rfl
@[simp] theorem tstr72 : tstr Try.prog 72 = false := by kernel_rfl
@[simp] theorem tzero72 : tzero Try.prog 72 = some [.nil] := by kernel_rfl
@[simp] theorem tbyt72 : tbyt Try.prog 72 = false := by kernel_rfl
@[simp] theorem tel72 : tel Try.prog 72 = some (4, 32) := by kernel_rfl
@[simp] theorem tzeroE72 : tzeroE Try.prog 72 = some (4, 32, [.int .i64 0, .int .i64 0, .int .i64 0, .int .i64 0]) := by kernel_rfl
@[simp] theorem tk73 : tk Try.prog 73 = some (true, 1) := by kernel_rfl
@[simp] theorem tzero73 : tzero Try.prog 73 = some [.nil] := by kernel_rfl
@[simp] theorem toff73_0 : toff Try.prog 73 0 = some 0 := by kernel_rfl
@[simp] theorem tplaces73 : tplaces Try.prog 73 = some ([(0, 1)], [.nil]) := by kernel_rfl
@[simp] theorem tk74 : tk Try.prog 74 = some (true, 1) := by kernel_rfl
@[simp] theorem tzero74 : tzero Try.prog 74 = some [.nil] := by kernel_rfl
@[simp] theorem toff74_0 : toff Try.prog 74 0 = some 0 := by kernel_rfl
@[simp] theorem tplaces74 : tplaces Try.prog 74 = some ([(0, 1)], [.nil]) := by kernel_rfl
@[simp] theorem tk75 : tk Try.prog 75 = some (false, 1) := by kernel_rfl
@[simp] theorem tk76 : tk Try.prog 76 = some (false, 1) := by kernel_rfl
@[simp] theorem tk77 : tk Try.prog 77 = some (false, 1) := by kernel_rfl
@[simp] theorem tstr77 : tstr Try.prog 77 = false := by kernel_rfl
@[simp] theorem tzero77 : tzero Try.prog 77 = some [.nil] := by kernel_rfl
@[simp] theorem tbyt77 : tbyt Try.prog 77 = false := by kernel_rfl
@[simp] theorem tel77 : tel Try.prog 77 = some (3, 24) := by kernel_rfl
@[simp] theorem tzeroE77 : tzeroE Try.prog 77 = some (3, 24, [.bool false, .int .i64 0, .int .i64 0]) := by kernel_rfl
@[simp] theorem tk78 : tk Try.prog 78 = some (false, 1) := by kernel_rfl
@[simp] theorem tk79 : tk Try.prog 79 = some (false, 1) := by kernel_rfl
@[simp] theorem tk80 : tk Try.prog 80 = some (false, 1) := by kernel_rfl
@[simp] theorem tk81 : tk Try.prog 81 = some (false, 1) := by kernel_rfl
@[simp] theorem tk82 : tk Try.prog 82 = some (false, 1) := by kernel_rfl
@[simp] theorem tk83 : tk Try.prog 83 = some (false, 1) := by kernel_rfl
@[simp] theorem tk84 : tk Try.prog 84 = some (false, 1) := by kernel_rfl
@[simp] theorem tk85 : tk Try.prog 85 = some (false, 1) := by kernel_rfl
@[simp] theorem tk86 : tk Try.prog 86 = some (false, 1) := by kernel_rfl
@[simp] theorem tk87 : tk Try.prog 87 = some (true, 3) := by kernel_rfl
@[simp] theorem tzero87 : tzero Try.prog 87 = some [.bool false, .int .i64 0, .int .i64 0] := by kernel_rfl
@[simp] theorem toff87_0 : toff Try.prog 87 0 = some 0 := by kernel_rfl
@[simp] theorem toff87_1 : toff Try.prog 87 1 = some 1 := by kernel_rfl
@[simp] theorem toff87_2 : toff Try.prog 87 2 = some 2 := by kernel_rfl
@[simp] theorem tsh87 : tsh Try.prog 87 = some [1, 0, 0] := by kernel_rfl
@[simp] theorem tplaces87 : tplaces Try.prog 87 = some ([(0, 1), (1, 1), (2, 1)], [.bool false, .int .i64 0, .int .i64 0]) := by kernel_rfl
@[simp] theorem tk88 : tk Try.prog 88 = some (true, 3) := by kernel_rfl
@[simp] theorem tzero88 : tzero Try.prog 88 = some [.bool false, .int .i64 0, .int .i64 0] := by kernel_rfl
@[simp] theorem toff88_0 : toff Try.prog 88 0 = some 0 := by kernel_rfl
@[simp] theorem toff88_1 : toff Try.prog 88 1 = some 1 := by kernel_rfl
@[simp] theorem toff88_2 : toff Try.prog 88 2 = some 2 := by kernel_rfl
@[simp] theorem tsh88 : tsh Try.prog 88 = some [1, 0, 0] := by kernel_rfl
@[simp] theorem tplaces88 : tplaces Try.prog 88 = some ([(0, 1), (1, 1), (2, 1)], [.bool false, .int .i64 0, .int .i64 0]) := by kernel_rfl
@[simp] theorem tk89 : tk Try.prog 89 = some (false, 1) := by kernel_rfl
@[simp] theorem tk90 : tk Try.prog 90 = some (false, 1) := by kernel_rfl
@[simp] theorem tk91 : tk Try.prog 91 = some (false, 1) := by kernel_rfl
@[simp] theorem tk92 : tk Try.prog 92 = some (false, 1) := by kernel_rfl
@[simp] theorem tk93 : tk Try.prog 93 = some (false, 1) := by kernel_rfl
@[simp] theorem tk94 : tk Try.prog 94 = some (false, 1) := by kernel_rfl
@[simp] theorem tk95 : tk Try.prog 95 = some (false, 1) := by kernel_rfl
@[simp] theorem tk96 : tk Try.prog 96 = some (true, 5) := by kernel_rfl
@[simp] theorem tzero96 : tzero Try.prog 96 = some [.bool false, .int .i64 0, .int .i64 0, .int .i64 0, .int .i64 0] := by kernel_rfl
@[simp] theorem toff96_0 : toff Try.prog 96 0 = some 0 := by kernel_rfl
@[simp] theorem toff96_1 : toff Try.prog 96 1 = some 1 := by kernel_rfl
@[simp] theorem toff96_2 : toff Try.prog 96 2 = some 2 := by kernel_rfl
@[simp] theorem toff96_3 : toff Try.prog 96 3 = some 3 := by kernel_rfl
@[simp] theorem toff96_4 : toff Try.prog 96 4 = some 4 := by kernel_rfl
@[simp] theorem tsh96 : tsh Try.prog 96 = some [1, 0, 0, 0, 0] := by kernel_rfl
@[simp] theorem tplaces96 : tplaces Try.prog 96 = some ([(0, 1), (1, 1), (2, 1), (3, 1), (4, 1)], [.bool false, .int .i64 0, .int .i64 0, .int .i64 0, .int .i64 0]) := by kernel_rfl
@[simp] theorem tk97 : tk Try.prog 97 = some (true, 5) := by kernel_rfl
@[simp] theorem tzero97 : tzero Try.prog 97 = some [.bool false, .int .i64 0, .int .i64 0, .int .i64 0, .int .i64 0] := by kernel_rfl
@[simp] theorem toff97_0 : toff Try.prog 97 0 = some 0 := by kernel_rfl
@[simp] theorem toff97_1 : toff Try.prog 97 1 = some 1 := by kernel_rfl
@[simp] theorem toff97_2 : toff Try.prog 97 2 = some 2 := by kernel_rfl
@[simp] theorem toff97_3 : toff Try.prog 97 3 = some 3 := by kernel_rfl
@[simp] theorem toff97_4 : toff Try.prog 97 4 = some 4 := by kernel_rfl
@[simp] theorem tsh97 : tsh Try.prog 97 = some [1, 0, 0, 0, 0] := by kernel_rfl
@[simp] theorem tplaces97 : tplaces Try.prog 97 = some ([(0, 1), (1, 1), (2, 1), (3, 1), (4, 1)], [.bool false, .int .i64 0, .int .i64 0, .int .i64 0, .int .i64 0]) := by kernel_rfl
@[simp] theorem tk98 : tk Try.prog 98 = some (false, 1) := by kernel_rfl
@[simp] theorem tk99 : tk Try.prog 99 = some (true, 5) := by kernel_rfl
@[simp] theorem tzero99 : tzero Try.prog 99 = some [.bool false, .int .i64 0, .int .i64 0, .int .i64 0, .int .i64 0] := by kernel_rfl
@[simp] theorem toff99_0 : toff Try.prog 99 0 = some 0 := by kernel_rfl
@[simp] theorem toff99_1 : toff Try.prog 99 1 = some 1 := by kernel_rfl
@[simp] theorem toff99_2 : toff Try.prog 99 2 = some 2 := by kernel_rfl
@[simp] theorem toff99_3 : toff Try.prog 99 3 = some 3 := by kernel_rfl
@[simp] theorem toff99_4 : toff Try.prog 99 4 = some 4 := by kernel_rfl
@[simp] theorem tsh99 : tsh Try.prog 99 = some [1, 0, 0, 0, 0] := by kernel_rfl
@[simp] theorem tplaces99 : tplaces Try.prog 99 = some ([(0, 1), (1, 1), (2, 1), (3, 1), (4, 1)], [.bool false, .int .i64 0, .int .i64 0, .int .i64 0, .int .i64 0]) := by kernel_rfl
@[simp] theorem tk100 : tk Try.prog 100 = some (true, 4) := by kernel_rfl
@[simp] theorem tzero100 : tzero Try.prog 100 = some [.int .i64 0, .int .i64 0, .int .i64 0, .int .i64 0] := by kernel_rfl
@[simp] theorem toff100_0 : toff Try.prog 100 0 = some 0 := by kernel_rfl
@[simp] theorem toff100_1 : toff Try.prog 100 1 = some 1 := by kernel_rfl
@[simp] theorem toff100_2 : toff Try.prog 100 2 = some 2 := by kernel_rfl
@[simp] theorem toff100_3 : toff Try.prog 100 3 = some 3 := by kernel_rfl
@[simp] theorem tsh100 : tsh Try.prog 100 = some [0, 0, 0, 0] := by kernel_rfl
@[simp] theorem tplaces100 : tplaces Try.prog 100 = some ([(0, 1), (1, 1), (2, 1), (3, 1)], [.int .i64 0, .int .i64 0, .int .i64 0, .int .i64 0]) := by kernel_rfl
@[simp] theorem tk101 : tk Try.prog 101 = some (true, 4) := by kernel_rfl
@[simp] theorem tzero101 : tzero Try.prog 101 = some [.int .i64 0, .int .i64 0, .int .i64 0, .int .i64 0] := by kernel_rfl
@[simp] theorem toff101_0 : toff Try.prog 101 0 = some 0 := by kernel_rfl
@[simp] theorem toff101_1 : toff Try.prog 101 1 = some 1 := by kernel_rfl
@[simp] theorem toff101_2 : toff Try.prog 101 2 = some 2 := by kernel_rfl
@[simp] theorem toff101_3 : toff Try.prog 101 3 = some 3 := by kernel_rfl
@[simp] theorem tsh101 : tsh Try.prog 101 = some [0, 0, 0, 0] := by kernel_rfl
@[simp] theorem tplaces101 : tplaces Try.prog 101 = some ([(0, 1), (1, 1), (2, 1), (3, 1)], [.int .i64 0, .int .i64 0, .int .i64 0, .int .i64 0]) := by kernel_rfl
@[simp] theorem tk102 : tk Try.prog 102 = some (false, 1) := by kernel_rfl
@[simp] theorem tk103 : tk Try.prog 103 = some (true, 4) := by kernel_rfl
@[simp] theorem tzero103 : tzero Try.prog 103 = some [.int .i64 0, .int .i64 0, .int .i64 0, .int .i64 0] := by kernel_rfl
@[simp] theorem toff103_0 : toff Try.prog 103 0 = some 0 := by kernel_rfl
@[simp] theorem toff103_1 : toff Try.prog 103 1 = some 1 := by kernel_rfl
@[simp] theorem toff103_2 : toff Try.prog 103 2 = some 2 := by kernel_rfl
@[simp] theorem toff103_3 : toff Try.prog 103 3 = some 3 := by kernel_rfl
@[simp] theorem tsh103 : tsh Try.prog 103 = some [0, 0, 0, 0] := by kernel_rfl
@[simp] theorem tplaces103 : tplaces Try.prog 103 = some ([(0, 1), (1, 1), (2, 1), (3, 1)], [.int .i64 0, .int .i64 0, .int .i64 0, .int .i64 0]) := by kernel_rfl
@[simp] theorem tk104 : tk Try.prog 104 = some (false, 1) := by kernel_rfl
@[simp] theorem tk105 : tk Try.prog 105 = some (false, 1) := by kernel_rfl
@[simp] theorem tk106 : tk Try.prog 106 = some (false, 1) := by kernel_rfl
@[simp] theorem tk107 : tk Try.prog 107 = some (false, 1) := by kernel_rfl
@[simp] theorem tk108 : tk Try.prog 108 = some (false, 1) := by kernel_rfl
@[simp] theorem tk109 : tk Try.prog 109 = some (false, 1) := by kernel_rfl
@[simp] theorem tk110 : tk Try.prog 110 = some (false, 1) := by kernel_rfl
@[simp] theorem tk111 : tk Try.prog 111 = some (false, 1) := by kernel_rfl
@[simp] theorem tk112 : tk Try.prog 112 = some (false, 1) := by kernel_rfl
@[simp] theorem tk113 : tk Try.prog 113 = some (false, 1) := by kernel_rfl
@[simp] theorem tk114 : tk Try.prog 114 = some (false, 1) := by kernel_rfl
@[simp] theorem tk115 : tk Try.prog 115 = some (false, 1) := by kernel_rfl
@[simp] theorem tk116 : tk Try.prog 116 = some (false, 1) := by kernel_rfl
@[simp] theorem tint116 : tint Try.prog 116 = some .u64 := by kernel_rfl
@[simp] theorem tstr116 : tstr Try.prog 116 = false := by kernel_rfl
@[simp] theorem tzero116 : tzero Try.prog 116 = some [.int .u64 0] := by kernel_rfl
@[simp] theorem tbyt116 : tbyt Try.prog 116 = false := by kernel_rfl
@[simp] theorem tk117 : tk Try.prog 117 = some (false, 1) := by kernel_rfl
@[simp] theorem tk118 : tk Try.prog 118 = some (false, 1) := by kernel_rfl
@[simp] theorem tint118 : tint Try.prog 118 = some .i64 := by kernel_rfl
@[simp] theorem tstr118 : tstr Try.prog 118 = false := by kernel_rfl
@[simp] theorem tzero118 : tzero Try.prog 118 = some [.int .i64 0] := by kernel_rfl
@[simp] theorem tbyt118 : tbyt Try.prog 118 = false := by kernel_rfl
@[simp] theorem tk120 : tk Try.prog 120 = some (false, 1) := by kernel_rfl
@[simp] theorem tk121 : tk Try.prog 121 = some (false, 1) := by kernel_rfl
@[simp] theorem tk122 : tk Try.prog 122 = some (false, 1) := by kernel_rfl
@[simp] theorem tk123 : tk Try.prog 123 = some (false, 1) := by kernel_rfl
@[simp] theorem tk125 : tk Try.prog 125 = some (false, 1) := by kernel_rfl
@[simp] theorem tk126 : tk Try.prog 126 = some (false, 1) := by kernel_rfl
@[simp] theorem tk127 : tk Try.prog 127 = some (false, 1) := by kernel_rfl
@[simp] theorem tint127 : tint Try.prog 127 = some .u32 := by kernel_rfl
@[simp] theorem tstr127 : tstr Try.prog 127 = false := by kernel_rfl
@[simp] theorem tzero127 : tzero Try.prog 127 = some [.int .u32 0] := by kernel_rfl
@[simp] theorem tbyt127 : tbyt Try.prog 127 = false := by kernel_rfl
@[simp] theorem tk128 : tk Try.prog 128 = some (false, 1) := by kernel_rfl
@[simp] theorem tk129 : tk Try.prog 129 = some (false, 1) := by kernel_rfl
@[simp] theorem tint129 : tint Try.prog 129 = some .u64 := by kernel_rfl
@[simp] theorem tstr129 : tstr Try.prog 129 = false := by kernel_rfl
@[simp] theorem tzero129 : tzero Try.prog 129 = some [.int .u64 0] := by kernel_rfl
@[simp] theorem tbyt129 : tbyt Try.prog 129 = false := by kernel_rfl
@[simp] theorem tk130 : tk Try.prog 130 = some (false, 1) := by kernel_rfl
@[simp] theorem tint130 : tint Try.prog 130 = some .u64 := by kernel_rfl
@[simp] theorem tstr130 : tstr Try.prog 130 = false := by kernel_rfl
@[simp] theorem tzero130 : tzero Try.prog 130 = some [.int .u64 0] := by kernel_rfl
@[simp] theorem tbyt130 : tbyt Try.prog 130 = false := by kernel_rfl
@[simp] theorem tk131 : tk Try.prog 131 = some (false, 1) := by kernel_rfl
@[simp] theorem tk132 : tk Try.prog 132 = some (false, 1) := by kernel_rfl
@[simp] theorem tk133 : tk Try.prog 133 = some (false, 1) := by kernel_rfl
@[simp] theorem tk134 : tk Try.prog 134 = some (false, 1) := by kernel_rfl
@[simp] theorem tk135 : tk Try.prog 135 = some (false, 1) := by kernel_rfl
@[simp] theorem tk136 : tk Try.prog 136 = some (false, 1) := by kernel_rfl
@[simp] theorem tk138 : tk Try.prog 138 = some (false, 1) := by kernel_rfl
@[simp] theorem tk139 : tk Try.prog 139 = some (false, 1) := by kernel_rfl
@[simp] theorem tk145 : tk Try.prog 145 = some (false, 1) := by kernel_rfl
@[simp] theorem tk148 : tk Try.prog 148 = some (false, 1) := by kernel_rfl
@[simp] theorem tk149 : tk Try.prog 149 = some (false, 1) := by kernel_rfl
@[simp] theorem tk154 : tk Try.prog 154 = some (false, 1) := by kernel_rfl
end HT

set_option linter.unusedSimpArgs false
set_option linter.unusedVariables false
namespace HT
open Go Go.Proofs HK
attribute [simp] avk
theorem mixed : Try.prog.follows .mixedOrders = true := by kernel_rfl
/-- What laws.szXS counts of a slice. -/
def szL {α : Type} (f : α → Nat) (l : List α) : Nat := l.length + (l.map f).sum
theorem sum_mem {α : Type} {f : α → Nat} : ∀ {l : List α} {x : α}, x ∈ l → f x ≤ (l.map f).sum
  | y :: l, x, h => by
    rcases List.mem_cons.1 h with rfl | h
    · simp
    · have := sum_mem (f := f) h; simp; omega
theorem szL_mem {α : Type} {f : α → Nat} {l : List α} {x : α} (h : x ∈ l) : f x ≤ szL f l := by
  have := sum_mem (f := f) h; unfold szL; omega
theorem szL_take {α : Type} {f : α → Nat} {l : List α} {k : Nat} {x : α} (h : l[k]? = some x) : ((l.take (k + 1)).map f).sum = ((l.take k).map f).sum + f x := by
  rw [List.take_add_one, h]; simp
theorem sum_take {α : Type} (f : α → Nat) (l : List α) (k : Nat) : ((l.take k).map f).sum ≤ (l.map f).sum := by
  conv => rhs; rw [← List.take_append_drop k l, List.map_append, List.sum_append]
  omega
theorem getS {β : Type} (z : β) (l : List β) (k : Nat) (hk : k < l.length) : (l.take k ++ List.replicate (l.length - k) z)[k]? = some z := by
  rw [List.getElem?_append_right (by simp; omega), List.getElem?_replicate, if_pos (by simp; omega)]
theorem wrapI (n : Int) (h : -2 ^ 63 ≤ n) (h' : n < 2 ^ 63) : IntKind.i64.wrap n = n := by
  have e : IntKind.i64.wrap n = if n % 2 ^ 64 ≥ 2 ^ 63 then n % 2 ^ 64 - 2 ^ 64 else n % 2 ^ 64 := by
    simp [IntKind.wrap, IntKind.bits, IntKind.signed]
  rw [e]
  split <;> omega
theorem wrap1 (k : Nat) (h : k + 1 < 2 ^ 63) : IntKind.i64.wrap ((k : Int) + 1) = (k : Int) + 1 := wrapI _ (by omega) (by omega)
theorem fillS {β : Type} (z : β) (l : List β) (k : Nat) (x : β) (hk : l[k]? = some x) : (l.take k ++ List.replicate (l.length - k) z).set k x = l.take (k + 1) ++ List.replicate (l.length - (k + 1)) z := by
  have hlt := (List.getElem?_eq_some_iff.1 hk).1
  rw [List.set_append_right _ _ (by simp; omega)]
  have e : l.length - k = (l.length - (k + 1)) + 1 := by omega
  rw [e, List.replicate_succ]
  have e2 : k - (l.take k).length = 0 := by simp; omega
  rw [e2, List.set_cons_zero, List.take_add_one, hk]
  simp
/-- What laws.szX leaves: nothing, or what is left. -/
def szR (n : Nat) (m : Int) : Int := if (n : Int) ≤ m then m - n else -1
theorem szR_cases (n : Nat) (m : Int) : ((n : Int) ≤ m ∧ szR n m = m - n) ∨ (m < n ∧ szR n m = -1) := by
  unfold szR
  split <;> omega
theorem szR_le {n : Nat} {m : Int} (h : m ≤ 1048576) (h0 : 0 ≤ m) : szR n m ≤ 1048576 := by
  rcases szR_cases n m with h | h <;> omega
def IntS (l : List Int) : List (List AV) := l.map fun b => [.int .i64 b]
@[simp] theorem IntS_length (l : List Int) : (IntS l).length = l.length := by simp [IntS]
@[simp] theorem IntS_get (l : List Int) (k : Nat) : (IntS l)[k]? = (l[k]?).map (fun b => [AV.int .i64 b]) := by simp [IntS]
@[simp] theorem IntS_getE (l : List Int) (k : Nat) (h : k < (IntS l).length) : (IntS l)[k] = (fun b => [AV.int .i64 b]) (l[k]'(by simpa using h)) := by simp [IntS]
@[simp] theorem IntS_take (l : List Int) : List.take l.length (IntS l) = IntS l := by
  have := List.take_length (l := IntS l)
  rwa [IntS_length] at this
@[simp] theorem IntS_nil : IntS [] = [] := rfl
theorem IntS_app (a b : List Int) : IntS (a ++ b) = IntS a ++ IntS b := by simp [IntS]
theorem IntS_takeN (l : List Int) (k : Nat) : (IntS l).take k = IntS (l.take k) := by simp [IntS, List.map_take]
theorem IntS_dropN (l : List Int) (k : Nat) : (IntS l).drop k = IntS (l.drop k) := by simp [IntS, List.map_drop]
theorem IntS_len {l : List Int} {e : List AV} (h : e ∈ IntS l) : e.length = 1 := by
  obtain ⟨d, _, rfl⟩ := List.mem_map.1 h
  rfl
theorem IntS_lenG (l : List Int) (k : Nat) (h : k < l.length) : ((Option.map (fun b => [AV.int .i64 b]) l[k]?).getD []).length = 1 := by simp [h]
@[simp] theorem IntS_ren (l : List Int) (ids : List Nat) (d : Nat) : (IntS l).map (List.map (renN ids (d + 1))) = IntS l := by
  simp [IntS, Function.comp_def]
@[simp] theorem IntS_low (n : Nat) (l : List Int) : lowEs n (IntS l) = true := by
  simp [lowEs, IntS]
@[simp] theorem IntS_lowT (n : Nat) (l : List Int) (k : Nat) : lowEs n ((IntS l).take k) = true := lowEs_take (IntS_low n l) k
@[simp] theorem IntS_str (d : Nat) (l : List Int) : ((IntS l).all fun e => e.all (strN (d + 1))) = true := by
  simp [IntS, -strN, strS_int, strS_bool]
theorem IntS_okI (l : List Int) : okI (.own 1 (IntS l)) = true := by
  simp [okI]
@[simp] theorem IntS_view (l : List Int) (h : Heap) (d : Nat) : (IntS l).map (List.map (viewN h (d + 1))) = IntS l := by
  simp [IntS, IntS, Function.comp_def]
structure Waiter where
  g : Int
  cas : Int
  v : Int
deriving DecidableEq
@[simp] def Waiter.cl (d : Waiter) : List AV := [.int .i64 d.g, .int .i64 d.cas, .int .i64 d.v]
def WaiterS (l : List Waiter) : List (List AV) := l.map Waiter.cl
@[simp] theorem WaiterS_length (l : List Waiter) : (WaiterS l).length = l.length := by simp [WaiterS]
@[simp] theorem WaiterS_get (l : List Waiter) (k : Nat) : (WaiterS l)[k]? = (l[k]?).map Waiter.cl := by simp [WaiterS]
@[simp] theorem WaiterS_getE (l : List Waiter) (k : Nat) (h : k < (WaiterS l).length) : (WaiterS l)[k] = Waiter.cl (l[k]'(by simpa using h)) := by simp [WaiterS]
@[simp] theorem WaiterS_take (l : List Waiter) : List.take l.length (WaiterS l) = WaiterS l := by
  have := List.take_length (l := WaiterS l)
  rwa [WaiterS_length] at this
@[simp] theorem WaiterS_nil : WaiterS [] = [] := rfl
theorem WaiterS_app (a b : List Waiter) : WaiterS (a ++ b) = WaiterS a ++ WaiterS b := by simp [WaiterS]
theorem WaiterS_takeN (l : List Waiter) (k : Nat) : (WaiterS l).take k = WaiterS (l.take k) := by simp [WaiterS, List.map_take]
theorem WaiterS_dropN (l : List Waiter) (k : Nat) : (WaiterS l).drop k = WaiterS (l.drop k) := by simp [WaiterS, List.map_drop]
theorem WaiterS_len {l : List Waiter} {e : List AV} (h : e ∈ WaiterS l) : e.length = 3 := by
  obtain ⟨d, _, rfl⟩ := List.mem_map.1 h
  rfl
theorem WaiterS_lenG (l : List Waiter) (k : Nat) (h : k < l.length) : ((Option.map Waiter.cl l[k]?).getD []).length = 3 := by simp [h]
@[simp] theorem WaiterS_ren (l : List Waiter) (ids : List Nat) (d : Nat) : (WaiterS l).map (List.map (renN ids (d + 1))) = WaiterS l := by
  simp [WaiterS, Function.comp_def]
@[simp] theorem WaiterS_low (n : Nat) (l : List Waiter) : lowEs n (WaiterS l) = true := by
  simp [lowEs, WaiterS]
@[simp] theorem WaiterS_lowT (n : Nat) (l : List Waiter) (k : Nat) : lowEs n ((WaiterS l).take k) = true := lowEs_take (WaiterS_low n l) k
@[simp] theorem WaiterS_str (d : Nat) (l : List Waiter) : ((WaiterS l).all fun e => e.all (strN (d + 1))) = true := by
  simp [WaiterS, -strN, strS_int, strS_bool]
theorem WaiterS_okI (l : List Waiter) : okI (.own 3 (WaiterS l)) = true := by
  simp [okI]
@[simp] theorem WaiterS_view (l : List Waiter) (h : Heap) (d : Nat) : (WaiterS l).map (List.map (viewN h (d + 1))) = WaiterS l := by
  simp [WaiterS, WaiterS, Function.comp_def]
structure Item where
  kind : Int
  obj : Int
  v : Int
  ok : Bool
deriving DecidableEq
@[simp] def Item.cl (d : Item) : List AV := [.int .i64 d.kind, .int .i64 d.obj, .int .i64 d.v, .bool d.ok]
def ItemS (l : List Item) : List (List AV) := l.map Item.cl
@[simp] theorem ItemS_length (l : List Item) : (ItemS l).length = l.length := by simp [ItemS]
@[simp] theorem ItemS_get (l : List Item) (k : Nat) : (ItemS l)[k]? = (l[k]?).map Item.cl := by simp [ItemS]
@[simp] theorem ItemS_getE (l : List Item) (k : Nat) (h : k < (ItemS l).length) : (ItemS l)[k] = Item.cl (l[k]'(by simpa using h)) := by simp [ItemS]
@[simp] theorem ItemS_take (l : List Item) : List.take l.length (ItemS l) = ItemS l := by
  have := List.take_length (l := ItemS l)
  rwa [ItemS_length] at this
@[simp] theorem ItemS_nil : ItemS [] = [] := rfl
theorem ItemS_app (a b : List Item) : ItemS (a ++ b) = ItemS a ++ ItemS b := by simp [ItemS]
theorem ItemS_takeN (l : List Item) (k : Nat) : (ItemS l).take k = ItemS (l.take k) := by simp [ItemS, List.map_take]
theorem ItemS_dropN (l : List Item) (k : Nat) : (ItemS l).drop k = ItemS (l.drop k) := by simp [ItemS, List.map_drop]
theorem ItemS_len {l : List Item} {e : List AV} (h : e ∈ ItemS l) : e.length = 4 := by
  obtain ⟨d, _, rfl⟩ := List.mem_map.1 h
  rfl
theorem ItemS_lenG (l : List Item) (k : Nat) (h : k < l.length) : ((Option.map Item.cl l[k]?).getD []).length = 4 := by simp [h]
@[simp] theorem ItemS_ren (l : List Item) (ids : List Nat) (d : Nat) : (ItemS l).map (List.map (renN ids (d + 1))) = ItemS l := by
  simp [ItemS, Function.comp_def]
@[simp] theorem ItemS_low (n : Nat) (l : List Item) : lowEs n (ItemS l) = true := by
  simp [lowEs, ItemS]
@[simp] theorem ItemS_lowT (n : Nat) (l : List Item) (k : Nat) : lowEs n ((ItemS l).take k) = true := lowEs_take (ItemS_low n l) k
@[simp] theorem ItemS_str (d : Nat) (l : List Item) : ((ItemS l).all fun e => e.all (strN (d + 1))) = true := by
  simp [ItemS, -strN, strS_int, strS_bool]
theorem ItemS_okI (l : List Item) : okI (.own 4 (ItemS l)) = true := by
  simp [okI]
@[simp] theorem ItemS_view (l : List Item) (h : Heap) (d : Nat) : (ItemS l).map (List.map (viewN h (d + 1))) = ItemS l := by
  simp [ItemS, ItemS, Function.comp_def]
structure Instr where
  op : Int
  a : Int
  b : Int
  c : Int
deriving DecidableEq
@[simp] def Instr.cl (d : Instr) : List AV := [.int .i64 d.op, .int .i64 d.a, .int .i64 d.b, .int .i64 d.c]
def InstrS (l : List Instr) : List (List AV) := l.map Instr.cl
@[simp] theorem InstrS_length (l : List Instr) : (InstrS l).length = l.length := by simp [InstrS]
@[simp] theorem InstrS_get (l : List Instr) (k : Nat) : (InstrS l)[k]? = (l[k]?).map Instr.cl := by simp [InstrS]
@[simp] theorem InstrS_getE (l : List Instr) (k : Nat) (h : k < (InstrS l).length) : (InstrS l)[k] = Instr.cl (l[k]'(by simpa using h)) := by simp [InstrS]
@[simp] theorem InstrS_take (l : List Instr) : List.take l.length (InstrS l) = InstrS l := by
  have := List.take_length (l := InstrS l)
  rwa [InstrS_length] at this
@[simp] theorem InstrS_nil : InstrS [] = [] := rfl
theorem InstrS_app (a b : List Instr) : InstrS (a ++ b) = InstrS a ++ InstrS b := by simp [InstrS]
theorem InstrS_takeN (l : List Instr) (k : Nat) : (InstrS l).take k = InstrS (l.take k) := by simp [InstrS, List.map_take]
theorem InstrS_dropN (l : List Instr) (k : Nat) : (InstrS l).drop k = InstrS (l.drop k) := by simp [InstrS, List.map_drop]
theorem InstrS_len {l : List Instr} {e : List AV} (h : e ∈ InstrS l) : e.length = 4 := by
  obtain ⟨d, _, rfl⟩ := List.mem_map.1 h
  rfl
theorem InstrS_lenG (l : List Instr) (k : Nat) (h : k < l.length) : ((Option.map Instr.cl l[k]?).getD []).length = 4 := by simp [h]
@[simp] theorem InstrS_ren (l : List Instr) (ids : List Nat) (d : Nat) : (InstrS l).map (List.map (renN ids (d + 1))) = InstrS l := by
  simp [InstrS, Function.comp_def]
@[simp] theorem InstrS_low (n : Nat) (l : List Instr) : lowEs n (InstrS l) = true := by
  simp [lowEs, InstrS]
@[simp] theorem InstrS_lowT (n : Nat) (l : List Instr) (k : Nat) : lowEs n ((InstrS l).take k) = true := lowEs_take (InstrS_low n l) k
@[simp] theorem InstrS_str (d : Nat) (l : List Instr) : ((InstrS l).all fun e => e.all (strN (d + 1))) = true := by
  simp [InstrS, -strN, strS_int, strS_bool]
theorem InstrS_okI (l : List Instr) : okI (.own 4 (InstrS l)) = true := by
  simp [okI]
@[simp] theorem InstrS_view (l : List Instr) (h : Heap) (d : Nat) : (InstrS l).map (List.map (viewN h (d + 1))) = InstrS l := by
  simp [InstrS, InstrS, Function.comp_def]
structure Case where
  send : Bool
  chan : Int
  reg : Int
  ok : Int
  to : Int
deriving DecidableEq
@[simp] def Case.cl (d : Case) : List AV := [.bool d.send, .int .i64 d.chan, .int .i64 d.reg, .int .i64 d.ok, .int .i64 d.to]
def CaseS (l : List Case) : List (List AV) := l.map Case.cl
@[simp] theorem CaseS_length (l : List Case) : (CaseS l).length = l.length := by simp [CaseS]
@[simp] theorem CaseS_get (l : List Case) (k : Nat) : (CaseS l)[k]? = (l[k]?).map Case.cl := by simp [CaseS]
@[simp] theorem CaseS_getE (l : List Case) (k : Nat) (h : k < (CaseS l).length) : (CaseS l)[k] = Case.cl (l[k]'(by simpa using h)) := by simp [CaseS]
@[simp] theorem CaseS_take (l : List Case) : List.take l.length (CaseS l) = CaseS l := by
  have := List.take_length (l := CaseS l)
  rwa [CaseS_length] at this
@[simp] theorem CaseS_nil : CaseS [] = [] := rfl
theorem CaseS_app (a b : List Case) : CaseS (a ++ b) = CaseS a ++ CaseS b := by simp [CaseS]
theorem CaseS_takeN (l : List Case) (k : Nat) : (CaseS l).take k = CaseS (l.take k) := by simp [CaseS, List.map_take]
theorem CaseS_dropN (l : List Case) (k : Nat) : (CaseS l).drop k = CaseS (l.drop k) := by simp [CaseS, List.map_drop]
theorem CaseS_len {l : List Case} {e : List AV} (h : e ∈ CaseS l) : e.length = 5 := by
  obtain ⟨d, _, rfl⟩ := List.mem_map.1 h
  rfl
theorem CaseS_lenG (l : List Case) (k : Nat) (h : k < l.length) : ((Option.map Case.cl l[k]?).getD []).length = 5 := by simp [h]
@[simp] theorem CaseS_ren (l : List Case) (ids : List Nat) (d : Nat) : (CaseS l).map (List.map (renN ids (d + 1))) = CaseS l := by
  simp [CaseS, Function.comp_def]
@[simp] theorem CaseS_low (n : Nat) (l : List Case) : lowEs n (CaseS l) = true := by
  simp [lowEs, CaseS]
@[simp] theorem CaseS_lowT (n : Nat) (l : List Case) (k : Nat) : lowEs n ((CaseS l).take k) = true := lowEs_take (CaseS_low n l) k
@[simp] theorem CaseS_str (d : Nat) (l : List Case) : ((CaseS l).all fun e => e.all (strN (d + 1))) = true := by
  simp [CaseS, -strN, strS_int, strS_bool]
theorem CaseS_okI (l : List Case) : okI (.own 5 (CaseS l)) = true := by
  simp [okI]
@[simp] theorem CaseS_view (l : List Case) (h : Heap) (d : Nat) : (CaseS l).map (List.map (viewN h (d + 1))) = CaseS l := by
  simp [CaseS, CaseS, Function.comp_def]
structure Chan where
  cap : Int
  buf : List Int
  sends : List Waiter
  recvs : List Waiter
  closed : Bool
deriving DecidableEq
@[simp] def Chan.fr (d : Chan) : List AV := [.int .i64 d.cap, .fz (IntS d.buf), .fz (WaiterS d.sends), .fz (WaiterS d.recvs), .bool d.closed]
def ChanSf (l : List Chan) : List (List AV) := l.map Chan.fr
@[simp] theorem ChanSf_length (l : List Chan) : (ChanSf l).length = l.length := by simp [ChanSf]
@[simp] theorem ChanSf_get (l : List Chan) (k : Nat) : (ChanSf l)[k]? = (l[k]?).map Chan.fr := by simp [ChanSf]
@[simp] theorem ChanSf_getE (l : List Chan) (k : Nat) (h : k < (ChanSf l).length) : (ChanSf l)[k] = Chan.fr (l[k]'(by simpa using h)) := by simp [ChanSf]
@[simp] theorem ChanSf_take (l : List Chan) : List.take l.length (ChanSf l) = ChanSf l := by
  have := List.take_length (l := ChanSf l)
  rwa [ChanSf_length] at this
@[simp] theorem ChanSf_nil : ChanSf [] = [] := rfl
theorem ChanSf_app (a b : List Chan) : ChanSf (a ++ b) = ChanSf a ++ ChanSf b := by simp [ChanSf]
theorem ChanSf_takeN (l : List Chan) (k : Nat) : (ChanSf l).take k = ChanSf (l.take k) := by simp [ChanSf, List.map_take]
theorem ChanSf_dropN (l : List Chan) (k : Nat) : (ChanSf l).drop k = ChanSf (l.drop k) := by simp [ChanSf, List.map_drop]
theorem ChanSf_len {l : List Chan} {e : List AV} (h : e ∈ ChanSf l) : e.length = 5 := by
  obtain ⟨d, _, rfl⟩ := List.mem_map.1 h
  rfl
theorem ChanSf_lenG (l : List Chan) (k : Nat) (h : k < l.length) : ((Option.map Chan.fr l[k]?).getD []).length = 5 := by simp [h]
@[simp] theorem ChanSf_ren (l : List Chan) (ids : List Nat) (d : Nat) : (ChanSf l).map (List.map (renN ids (d + 1))) = ChanSf l := by
  simp [ChanSf, Function.comp_def]
@[simp] theorem ChanSf_low (n : Nat) (l : List Chan) : lowEs n (ChanSf l) = true := by
  simp [lowEs, ChanSf]
@[simp] theorem ChanSf_lowT (n : Nat) (l : List Chan) (k : Nat) : lowEs n ((ChanSf l).take k) = true := lowEs_take (ChanSf_low n l) k
@[simp] theorem ChanSf_view (l : List Chan) (h : Heap) (d : Nat) : (ChanSf l).map (List.map (viewN h (d + 2))) = ChanSf l := by
  simp [ChanSf, ChanSf, Function.comp_def]
@[simp] def Chan.ow (d : Chan) : List AV := [.int .i64 d.cap, .own 1 (IntS d.buf), .own 3 (WaiterS d.sends), .own 3 (WaiterS d.recvs), .bool d.closed]
def ChanSo (l : List Chan) : List (List AV) := l.map Chan.ow
@[simp] theorem ChanSo_length (l : List Chan) : (ChanSo l).length = l.length := by simp [ChanSo]
@[simp] theorem ChanSo_get (l : List Chan) (k : Nat) : (ChanSo l)[k]? = (l[k]?).map Chan.ow := by simp [ChanSo]
@[simp] theorem ChanSo_getE (l : List Chan) (k : Nat) (h : k < (ChanSo l).length) : (ChanSo l)[k] = Chan.ow (l[k]'(by simpa using h)) := by simp [ChanSo]
@[simp] theorem ChanSo_take (l : List Chan) : List.take l.length (ChanSo l) = ChanSo l := by
  have := List.take_length (l := ChanSo l)
  rwa [ChanSo_length] at this
@[simp] theorem ChanSo_nil : ChanSo [] = [] := rfl
theorem ChanSo_app (a b : List Chan) : ChanSo (a ++ b) = ChanSo a ++ ChanSo b := by simp [ChanSo]
theorem ChanSo_takeN (l : List Chan) (k : Nat) : (ChanSo l).take k = ChanSo (l.take k) := by simp [ChanSo, List.map_take]
theorem ChanSo_dropN (l : List Chan) (k : Nat) : (ChanSo l).drop k = ChanSo (l.drop k) := by simp [ChanSo, List.map_drop]
theorem ChanSo_len {l : List Chan} {e : List AV} (h : e ∈ ChanSo l) : e.length = 5 := by
  obtain ⟨d, _, rfl⟩ := List.mem_map.1 h
  rfl
theorem ChanSo_lenG (l : List Chan) (k : Nat) (h : k < l.length) : ((Option.map Chan.ow l[k]?).getD []).length = 5 := by simp [h]
@[simp] theorem ChanSo_ren (l : List Chan) (ids : List Nat) (d : Nat) : (ChanSo l).map (List.map (renN ids (d + 1))) = ChanSo l := by
  simp [ChanSo, Function.comp_def]
@[simp] theorem ChanSo_low (n : Nat) (l : List Chan) : lowEs n (ChanSo l) = true := by
  simp [lowEs, ChanSo]
@[simp] theorem ChanSo_lowT (n : Nat) (l : List Chan) (k : Nat) : lowEs n ((ChanSo l).take k) = true := lowEs_take (ChanSo_low n l) k
@[simp] theorem ChanSo_str (d : Nat) (l : List Chan) : ((ChanSo l).all fun e => e.all (strN (d + 2))) = true := by
  simp [ChanSo, -strN, strS_int, strS_bool, strS_own]
theorem ChanSo_okI (l : List Chan) : okI (.own 5 (ChanSo l)) = true := by
  simp [okI]
@[simp] theorem ChanSo_view (l : List Chan) (h : Heap) (d : Nat) : (ChanSo l).map (List.map (viewN h (d + 2))) = ChanSf l := by
  simp [ChanSo, ChanSf, Function.comp_def]
def Chan.ok (d : Chan) : Prop := d.buf.length ≤ 1048576 ∧ d.sends.length ≤ 1048576 ∧ d.recvs.length ≤ 1048576
def Chan.fit (d : Chan) : Prop := d.buf.length ≤ maxLen ∧ d.sends.length ≤ maxLen ∧ d.recvs.length ≤ maxLen
def Chan.sz (d : Chan) : Nat := d.buf.length + d.sends.length + d.recvs.length
theorem Chan.sz_ok {d : Chan} (h : d.sz ≤ 1048576) : d.ok := by
  unfold Chan.sz at h
  exact ⟨by omega, by omega, by omega⟩
theorem Chan_oI (d : Chan) : okI (.agg d.ow) = true := by simp
structure Mutex where
  owner : Int
  wait : List Int
deriving DecidableEq
@[simp] def Mutex.fr (d : Mutex) : List AV := [.int .i64 d.owner, .fz (IntS d.wait)]
def MutexSf (l : List Mutex) : List (List AV) := l.map Mutex.fr
@[simp] theorem MutexSf_length (l : List Mutex) : (MutexSf l).length = l.length := by simp [MutexSf]
@[simp] theorem MutexSf_get (l : List Mutex) (k : Nat) : (MutexSf l)[k]? = (l[k]?).map Mutex.fr := by simp [MutexSf]
@[simp] theorem MutexSf_getE (l : List Mutex) (k : Nat) (h : k < (MutexSf l).length) : (MutexSf l)[k] = Mutex.fr (l[k]'(by simpa using h)) := by simp [MutexSf]
@[simp] theorem MutexSf_take (l : List Mutex) : List.take l.length (MutexSf l) = MutexSf l := by
  have := List.take_length (l := MutexSf l)
  rwa [MutexSf_length] at this
@[simp] theorem MutexSf_nil : MutexSf [] = [] := rfl
theorem MutexSf_app (a b : List Mutex) : MutexSf (a ++ b) = MutexSf a ++ MutexSf b := by simp [MutexSf]
theorem MutexSf_takeN (l : List Mutex) (k : Nat) : (MutexSf l).take k = MutexSf (l.take k) := by simp [MutexSf, List.map_take]
theorem MutexSf_dropN (l : List Mutex) (k : Nat) : (MutexSf l).drop k = MutexSf (l.drop k) := by simp [MutexSf, List.map_drop]
theorem MutexSf_len {l : List Mutex} {e : List AV} (h : e ∈ MutexSf l) : e.length = 2 := by
  obtain ⟨d, _, rfl⟩ := List.mem_map.1 h
  rfl
theorem MutexSf_lenG (l : List Mutex) (k : Nat) (h : k < l.length) : ((Option.map Mutex.fr l[k]?).getD []).length = 2 := by simp [h]
@[simp] theorem MutexSf_ren (l : List Mutex) (ids : List Nat) (d : Nat) : (MutexSf l).map (List.map (renN ids (d + 1))) = MutexSf l := by
  simp [MutexSf, Function.comp_def]
@[simp] theorem MutexSf_low (n : Nat) (l : List Mutex) : lowEs n (MutexSf l) = true := by
  simp [lowEs, MutexSf]
@[simp] theorem MutexSf_lowT (n : Nat) (l : List Mutex) (k : Nat) : lowEs n ((MutexSf l).take k) = true := lowEs_take (MutexSf_low n l) k
@[simp] theorem MutexSf_view (l : List Mutex) (h : Heap) (d : Nat) : (MutexSf l).map (List.map (viewN h (d + 2))) = MutexSf l := by
  simp [MutexSf, MutexSf, Function.comp_def]
@[simp] def Mutex.ow (d : Mutex) : List AV := [.int .i64 d.owner, .own 1 (IntS d.wait)]
def MutexSo (l : List Mutex) : List (List AV) := l.map Mutex.ow
@[simp] theorem MutexSo_length (l : List Mutex) : (MutexSo l).length = l.length := by simp [MutexSo]
@[simp] theorem MutexSo_get (l : List Mutex) (k : Nat) : (MutexSo l)[k]? = (l[k]?).map Mutex.ow := by simp [MutexSo]
@[simp] theorem MutexSo_getE (l : List Mutex) (k : Nat) (h : k < (MutexSo l).length) : (MutexSo l)[k] = Mutex.ow (l[k]'(by simpa using h)) := by simp [MutexSo]
@[simp] theorem MutexSo_take (l : List Mutex) : List.take l.length (MutexSo l) = MutexSo l := by
  have := List.take_length (l := MutexSo l)
  rwa [MutexSo_length] at this
@[simp] theorem MutexSo_nil : MutexSo [] = [] := rfl
theorem MutexSo_app (a b : List Mutex) : MutexSo (a ++ b) = MutexSo a ++ MutexSo b := by simp [MutexSo]
theorem MutexSo_takeN (l : List Mutex) (k : Nat) : (MutexSo l).take k = MutexSo (l.take k) := by simp [MutexSo, List.map_take]
theorem MutexSo_dropN (l : List Mutex) (k : Nat) : (MutexSo l).drop k = MutexSo (l.drop k) := by simp [MutexSo, List.map_drop]
theorem MutexSo_len {l : List Mutex} {e : List AV} (h : e ∈ MutexSo l) : e.length = 2 := by
  obtain ⟨d, _, rfl⟩ := List.mem_map.1 h
  rfl
theorem MutexSo_lenG (l : List Mutex) (k : Nat) (h : k < l.length) : ((Option.map Mutex.ow l[k]?).getD []).length = 2 := by simp [h]
@[simp] theorem MutexSo_ren (l : List Mutex) (ids : List Nat) (d : Nat) : (MutexSo l).map (List.map (renN ids (d + 1))) = MutexSo l := by
  simp [MutexSo, Function.comp_def]
@[simp] theorem MutexSo_low (n : Nat) (l : List Mutex) : lowEs n (MutexSo l) = true := by
  simp [lowEs, MutexSo]
@[simp] theorem MutexSo_lowT (n : Nat) (l : List Mutex) (k : Nat) : lowEs n ((MutexSo l).take k) = true := lowEs_take (MutexSo_low n l) k
@[simp] theorem MutexSo_str (d : Nat) (l : List Mutex) : ((MutexSo l).all fun e => e.all (strN (d + 2))) = true := by
  simp [MutexSo, -strN, strS_int, strS_bool, strS_own]
theorem MutexSo_okI (l : List Mutex) : okI (.own 2 (MutexSo l)) = true := by
  simp [okI]
@[simp] theorem MutexSo_view (l : List Mutex) (h : Heap) (d : Nat) : (MutexSo l).map (List.map (viewN h (d + 2))) = MutexSf l := by
  simp [MutexSo, MutexSf, Function.comp_def]
def Mutex.ok (d : Mutex) : Prop := d.wait.length ≤ 1048576
def Mutex.fit (d : Mutex) : Prop := d.wait.length ≤ maxLen
def Mutex.sz (d : Mutex) : Nat := d.wait.length
theorem Mutex.sz_ok {d : Mutex} (h : d.sz ≤ 1048576) : d.ok := by
  unfold Mutex.sz at h
  unfold Mutex.ok
  exact by omega
theorem Mutex_oI (d : Mutex) : okI (.agg d.ow) = true := by simp
structure Gor where
  proc : Int
  pc : Int
  regs : List Int
  state : Int
  trace : List Item
deriving DecidableEq
@[simp] def Gor.fr (d : Gor) : List AV := [.int .i64 d.proc, .int .i64 d.pc, .fz (IntS d.regs), .int .i64 d.state, .fz (ItemS d.trace)]
def GorSf (l : List Gor) : List (List AV) := l.map Gor.fr
@[simp] theorem GorSf_length (l : List Gor) : (GorSf l).length = l.length := by simp [GorSf]
@[simp] theorem GorSf_get (l : List Gor) (k : Nat) : (GorSf l)[k]? = (l[k]?).map Gor.fr := by simp [GorSf]
@[simp] theorem GorSf_getE (l : List Gor) (k : Nat) (h : k < (GorSf l).length) : (GorSf l)[k] = Gor.fr (l[k]'(by simpa using h)) := by simp [GorSf]
@[simp] theorem GorSf_take (l : List Gor) : List.take l.length (GorSf l) = GorSf l := by
  have := List.take_length (l := GorSf l)
  rwa [GorSf_length] at this
@[simp] theorem GorSf_nil : GorSf [] = [] := rfl
theorem GorSf_app (a b : List Gor) : GorSf (a ++ b) = GorSf a ++ GorSf b := by simp [GorSf]
theorem GorSf_takeN (l : List Gor) (k : Nat) : (GorSf l).take k = GorSf (l.take k) := by simp [GorSf, List.map_take]
theorem GorSf_dropN (l : List Gor) (k : Nat) : (GorSf l).drop k = GorSf (l.drop k) := by simp [GorSf, List.map_drop]
theorem GorSf_len {l : List Gor} {e : List AV} (h : e ∈ GorSf l) : e.length = 5 := by
  obtain ⟨d, _, rfl⟩ := List.mem_map.1 h
  rfl
theorem GorSf_lenG (l : List Gor) (k : Nat) (h : k < l.length) : ((Option.map Gor.fr l[k]?).getD []).length = 5 := by simp [h]
@[simp] theorem GorSf_ren (l : List Gor) (ids : List Nat) (d : Nat) : (GorSf l).map (List.map (renN ids (d + 1))) = GorSf l := by
  simp [GorSf, Function.comp_def]
@[simp] theorem GorSf_low (n : Nat) (l : List Gor) : lowEs n (GorSf l) = true := by
  simp [lowEs, GorSf]
@[simp] theorem GorSf_lowT (n : Nat) (l : List Gor) (k : Nat) : lowEs n ((GorSf l).take k) = true := lowEs_take (GorSf_low n l) k
@[simp] theorem GorSf_view (l : List Gor) (h : Heap) (d : Nat) : (GorSf l).map (List.map (viewN h (d + 2))) = GorSf l := by
  simp [GorSf, GorSf, Function.comp_def]
@[simp] def Gor.ow (d : Gor) : List AV := [.int .i64 d.proc, .int .i64 d.pc, .own 1 (IntS d.regs), .int .i64 d.state, .own 4 (ItemS d.trace)]
def GorSo (l : List Gor) : List (List AV) := l.map Gor.ow
@[simp] theorem GorSo_length (l : List Gor) : (GorSo l).length = l.length := by simp [GorSo]
@[simp] theorem GorSo_get (l : List Gor) (k : Nat) : (GorSo l)[k]? = (l[k]?).map Gor.ow := by simp [GorSo]
@[simp] theorem GorSo_getE (l : List Gor) (k : Nat) (h : k < (GorSo l).length) : (GorSo l)[k] = Gor.ow (l[k]'(by simpa using h)) := by simp [GorSo]
@[simp] theorem GorSo_take (l : List Gor) : List.take l.length (GorSo l) = GorSo l := by
  have := List.take_length (l := GorSo l)
  rwa [GorSo_length] at this
@[simp] theorem GorSo_nil : GorSo [] = [] := rfl
theorem GorSo_app (a b : List Gor) : GorSo (a ++ b) = GorSo a ++ GorSo b := by simp [GorSo]
theorem GorSo_takeN (l : List Gor) (k : Nat) : (GorSo l).take k = GorSo (l.take k) := by simp [GorSo, List.map_take]
theorem GorSo_dropN (l : List Gor) (k : Nat) : (GorSo l).drop k = GorSo (l.drop k) := by simp [GorSo, List.map_drop]
theorem GorSo_len {l : List Gor} {e : List AV} (h : e ∈ GorSo l) : e.length = 5 := by
  obtain ⟨d, _, rfl⟩ := List.mem_map.1 h
  rfl
theorem GorSo_lenG (l : List Gor) (k : Nat) (h : k < l.length) : ((Option.map Gor.ow l[k]?).getD []).length = 5 := by simp [h]
@[simp] theorem GorSo_ren (l : List Gor) (ids : List Nat) (d : Nat) : (GorSo l).map (List.map (renN ids (d + 1))) = GorSo l := by
  simp [GorSo, Function.comp_def]
@[simp] theorem GorSo_low (n : Nat) (l : List Gor) : lowEs n (GorSo l) = true := by
  simp [lowEs, GorSo]
@[simp] theorem GorSo_lowT (n : Nat) (l : List Gor) (k : Nat) : lowEs n ((GorSo l).take k) = true := lowEs_take (GorSo_low n l) k
@[simp] theorem GorSo_str (d : Nat) (l : List Gor) : ((GorSo l).all fun e => e.all (strN (d + 2))) = true := by
  simp [GorSo, -strN, strS_int, strS_bool, strS_own]
theorem GorSo_okI (l : List Gor) : okI (.own 5 (GorSo l)) = true := by
  simp [okI]
@[simp] theorem GorSo_view (l : List Gor) (h : Heap) (d : Nat) : (GorSo l).map (List.map (viewN h (d + 2))) = GorSf l := by
  simp [GorSo, GorSf, Function.comp_def]
def Gor.ok (d : Gor) : Prop := d.regs.length ≤ 1048576 ∧ d.trace.length ≤ 1048576
def Gor.fit (d : Gor) : Prop := d.regs.length ≤ maxLen ∧ d.trace.length ≤ maxLen
def Gor.sz (d : Gor) : Nat := d.regs.length + d.trace.length
theorem Gor.sz_ok {d : Gor} (h : d.sz ≤ 1048576) : d.ok := by
  unfold Gor.sz at h
  exact ⟨by omega, by omega⟩
theorem Gor_oI (d : Gor) : okI (.agg d.ow) = true := by simp
structure Select where
  cases : List Case
  els : Int
deriving DecidableEq
@[simp] def Select.fr (d : Select) : List AV := [.fz (CaseS d.cases), .int .i64 d.els]
def SelectSf (l : List Select) : List (List AV) := l.map Select.fr
@[simp] theorem SelectSf_length (l : List Select) : (SelectSf l).length = l.length := by simp [SelectSf]
@[simp] theorem SelectSf_get (l : List Select) (k : Nat) : (SelectSf l)[k]? = (l[k]?).map Select.fr := by simp [SelectSf]
@[simp] theorem SelectSf_getE (l : List Select) (k : Nat) (h : k < (SelectSf l).length) : (SelectSf l)[k] = Select.fr (l[k]'(by simpa using h)) := by simp [SelectSf]
@[simp] theorem SelectSf_take (l : List Select) : List.take l.length (SelectSf l) = SelectSf l := by
  have := List.take_length (l := SelectSf l)
  rwa [SelectSf_length] at this
@[simp] theorem SelectSf_nil : SelectSf [] = [] := rfl
theorem SelectSf_app (a b : List Select) : SelectSf (a ++ b) = SelectSf a ++ SelectSf b := by simp [SelectSf]
theorem SelectSf_takeN (l : List Select) (k : Nat) : (SelectSf l).take k = SelectSf (l.take k) := by simp [SelectSf, List.map_take]
theorem SelectSf_dropN (l : List Select) (k : Nat) : (SelectSf l).drop k = SelectSf (l.drop k) := by simp [SelectSf, List.map_drop]
theorem SelectSf_len {l : List Select} {e : List AV} (h : e ∈ SelectSf l) : e.length = 2 := by
  obtain ⟨d, _, rfl⟩ := List.mem_map.1 h
  rfl
theorem SelectSf_lenG (l : List Select) (k : Nat) (h : k < l.length) : ((Option.map Select.fr l[k]?).getD []).length = 2 := by simp [h]
@[simp] theorem SelectSf_ren (l : List Select) (ids : List Nat) (d : Nat) : (SelectSf l).map (List.map (renN ids (d + 1))) = SelectSf l := by
  simp [SelectSf, Function.comp_def]
@[simp] theorem SelectSf_low (n : Nat) (l : List Select) : lowEs n (SelectSf l) = true := by
  simp [lowEs, SelectSf]
@[simp] theorem SelectSf_lowT (n : Nat) (l : List Select) (k : Nat) : lowEs n ((SelectSf l).take k) = true := lowEs_take (SelectSf_low n l) k
@[simp] theorem SelectSf_view (l : List Select) (h : Heap) (d : Nat) : (SelectSf l).map (List.map (viewN h (d + 2))) = SelectSf l := by
  simp [SelectSf, SelectSf, Function.comp_def]
@[simp] def Select.ow (d : Select) : List AV := [.own 5 (CaseS d.cases), .int .i64 d.els]
def SelectSo (l : List Select) : List (List AV) := l.map Select.ow
@[simp] theorem SelectSo_length (l : List Select) : (SelectSo l).length = l.length := by simp [SelectSo]
@[simp] theorem SelectSo_get (l : List Select) (k : Nat) : (SelectSo l)[k]? = (l[k]?).map Select.ow := by simp [SelectSo]
@[simp] theorem SelectSo_getE (l : List Select) (k : Nat) (h : k < (SelectSo l).length) : (SelectSo l)[k] = Select.ow (l[k]'(by simpa using h)) := by simp [SelectSo]
@[simp] theorem SelectSo_take (l : List Select) : List.take l.length (SelectSo l) = SelectSo l := by
  have := List.take_length (l := SelectSo l)
  rwa [SelectSo_length] at this
@[simp] theorem SelectSo_nil : SelectSo [] = [] := rfl
theorem SelectSo_app (a b : List Select) : SelectSo (a ++ b) = SelectSo a ++ SelectSo b := by simp [SelectSo]
theorem SelectSo_takeN (l : List Select) (k : Nat) : (SelectSo l).take k = SelectSo (l.take k) := by simp [SelectSo, List.map_take]
theorem SelectSo_dropN (l : List Select) (k : Nat) : (SelectSo l).drop k = SelectSo (l.drop k) := by simp [SelectSo, List.map_drop]
theorem SelectSo_len {l : List Select} {e : List AV} (h : e ∈ SelectSo l) : e.length = 2 := by
  obtain ⟨d, _, rfl⟩ := List.mem_map.1 h
  rfl
theorem SelectSo_lenG (l : List Select) (k : Nat) (h : k < l.length) : ((Option.map Select.ow l[k]?).getD []).length = 2 := by simp [h]
@[simp] theorem SelectSo_ren (l : List Select) (ids : List Nat) (d : Nat) : (SelectSo l).map (List.map (renN ids (d + 1))) = SelectSo l := by
  simp [SelectSo, Function.comp_def]
@[simp] theorem SelectSo_low (n : Nat) (l : List Select) : lowEs n (SelectSo l) = true := by
  simp [lowEs, SelectSo]
@[simp] theorem SelectSo_lowT (n : Nat) (l : List Select) (k : Nat) : lowEs n ((SelectSo l).take k) = true := lowEs_take (SelectSo_low n l) k
@[simp] theorem SelectSo_str (d : Nat) (l : List Select) : ((SelectSo l).all fun e => e.all (strN (d + 2))) = true := by
  simp [SelectSo, -strN, strS_int, strS_bool, strS_own]
theorem SelectSo_okI (l : List Select) : okI (.own 2 (SelectSo l)) = true := by
  simp [okI]
@[simp] theorem SelectSo_view (l : List Select) (h : Heap) (d : Nat) : (SelectSo l).map (List.map (viewN h (d + 2))) = SelectSf l := by
  simp [SelectSo, SelectSf, Function.comp_def]
def Select.ok (d : Select) : Prop := d.cases.length ≤ 1048576
def Select.fit (d : Select) : Prop := d.cases.length ≤ maxLen
def Select.sz (d : Select) : Nat := d.cases.length
theorem Select.sz_ok {d : Select} (h : d.sz ≤ 1048576) : d.ok := by
  unfold Select.sz at h
  unfold Select.ok
  exact by omega
theorem Select_oI (d : Select) : okI (.agg d.ow) = true := by simp
structure Proc where
  code : List Instr
deriving DecidableEq
@[simp] def Proc.fr (d : Proc) : List AV := [.fz (InstrS d.code)]
def ProcSf (l : List Proc) : List (List AV) := l.map Proc.fr
@[simp] theorem ProcSf_length (l : List Proc) : (ProcSf l).length = l.length := by simp [ProcSf]
@[simp] theorem ProcSf_get (l : List Proc) (k : Nat) : (ProcSf l)[k]? = (l[k]?).map Proc.fr := by simp [ProcSf]
@[simp] theorem ProcSf_getE (l : List Proc) (k : Nat) (h : k < (ProcSf l).length) : (ProcSf l)[k] = Proc.fr (l[k]'(by simpa using h)) := by simp [ProcSf]
@[simp] theorem ProcSf_take (l : List Proc) : List.take l.length (ProcSf l) = ProcSf l := by
  have := List.take_length (l := ProcSf l)
  rwa [ProcSf_length] at this
@[simp] theorem ProcSf_nil : ProcSf [] = [] := rfl
theorem ProcSf_app (a b : List Proc) : ProcSf (a ++ b) = ProcSf a ++ ProcSf b := by simp [ProcSf]
theorem ProcSf_takeN (l : List Proc) (k : Nat) : (ProcSf l).take k = ProcSf (l.take k) := by simp [ProcSf, List.map_take]
theorem ProcSf_dropN (l : List Proc) (k : Nat) : (ProcSf l).drop k = ProcSf (l.drop k) := by simp [ProcSf, List.map_drop]
theorem ProcSf_len {l : List Proc} {e : List AV} (h : e ∈ ProcSf l) : e.length = 1 := by
  obtain ⟨d, _, rfl⟩ := List.mem_map.1 h
  rfl
theorem ProcSf_lenG (l : List Proc) (k : Nat) (h : k < l.length) : ((Option.map Proc.fr l[k]?).getD []).length = 1 := by simp [h]
@[simp] theorem ProcSf_ren (l : List Proc) (ids : List Nat) (d : Nat) : (ProcSf l).map (List.map (renN ids (d + 1))) = ProcSf l := by
  simp [ProcSf, Function.comp_def]
@[simp] theorem ProcSf_low (n : Nat) (l : List Proc) : lowEs n (ProcSf l) = true := by
  simp [lowEs, ProcSf]
@[simp] theorem ProcSf_lowT (n : Nat) (l : List Proc) (k : Nat) : lowEs n ((ProcSf l).take k) = true := lowEs_take (ProcSf_low n l) k
@[simp] theorem ProcSf_view (l : List Proc) (h : Heap) (d : Nat) : (ProcSf l).map (List.map (viewN h (d + 2))) = ProcSf l := by
  simp [ProcSf, ProcSf, Function.comp_def]
@[simp] def Proc.ow (d : Proc) : List AV := [.own 4 (InstrS d.code)]
def ProcSo (l : List Proc) : List (List AV) := l.map Proc.ow
@[simp] theorem ProcSo_length (l : List Proc) : (ProcSo l).length = l.length := by simp [ProcSo]
@[simp] theorem ProcSo_get (l : List Proc) (k : Nat) : (ProcSo l)[k]? = (l[k]?).map Proc.ow := by simp [ProcSo]
@[simp] theorem ProcSo_getE (l : List Proc) (k : Nat) (h : k < (ProcSo l).length) : (ProcSo l)[k] = Proc.ow (l[k]'(by simpa using h)) := by simp [ProcSo]
@[simp] theorem ProcSo_take (l : List Proc) : List.take l.length (ProcSo l) = ProcSo l := by
  have := List.take_length (l := ProcSo l)
  rwa [ProcSo_length] at this
@[simp] theorem ProcSo_nil : ProcSo [] = [] := rfl
theorem ProcSo_app (a b : List Proc) : ProcSo (a ++ b) = ProcSo a ++ ProcSo b := by simp [ProcSo]
theorem ProcSo_takeN (l : List Proc) (k : Nat) : (ProcSo l).take k = ProcSo (l.take k) := by simp [ProcSo, List.map_take]
theorem ProcSo_dropN (l : List Proc) (k : Nat) : (ProcSo l).drop k = ProcSo (l.drop k) := by simp [ProcSo, List.map_drop]
theorem ProcSo_len {l : List Proc} {e : List AV} (h : e ∈ ProcSo l) : e.length = 1 := by
  obtain ⟨d, _, rfl⟩ := List.mem_map.1 h
  rfl
theorem ProcSo_lenG (l : List Proc) (k : Nat) (h : k < l.length) : ((Option.map Proc.ow l[k]?).getD []).length = 1 := by simp [h]
@[simp] theorem ProcSo_ren (l : List Proc) (ids : List Nat) (d : Nat) : (ProcSo l).map (List.map (renN ids (d + 1))) = ProcSo l := by
  simp [ProcSo, Function.comp_def]
@[simp] theorem ProcSo_low (n : Nat) (l : List Proc) : lowEs n (ProcSo l) = true := by
  simp [lowEs, ProcSo]
@[simp] theorem ProcSo_lowT (n : Nat) (l : List Proc) (k : Nat) : lowEs n ((ProcSo l).take k) = true := lowEs_take (ProcSo_low n l) k
@[simp] theorem ProcSo_str (d : Nat) (l : List Proc) : ((ProcSo l).all fun e => e.all (strN (d + 2))) = true := by
  simp [ProcSo, -strN, strS_int, strS_bool, strS_own]
theorem ProcSo_okI (l : List Proc) : okI (.own 1 (ProcSo l)) = true := by
  simp [okI]
@[simp] theorem ProcSo_view (l : List Proc) (h : Heap) (d : Nat) : (ProcSo l).map (List.map (viewN h (d + 2))) = ProcSf l := by
  simp [ProcSo, ProcSf, Function.comp_def]
def Proc.ok (d : Proc) : Prop := d.code.length ≤ 1048576
def Proc.fit (d : Proc) : Prop := d.code.length ≤ maxLen
def Proc.sz (d : Proc) : Nat := d.code.length
theorem Proc.sz_ok {d : Proc} (h : d.sz ≤ 1048576) : d.ok := by
  unfold Proc.sz at h
  unfold Proc.ok
  exact by omega
theorem Proc_oI (d : Proc) : okI (.agg d.ow) = true := by simp
structure Eng where
  gs : List Gor
  chans : List Chan
  mus : List Mutex
@[simp] def Eng.fr (d : Eng) : List AV := [.fz (GorSf d.gs), .fz (ChanSf d.chans), .fz (MutexSf d.mus)]
@[simp] def Eng.ow (d : Eng) : List AV := [.own 5 (GorSo d.gs), .own 5 (ChanSo d.chans), .own 2 (MutexSo d.mus)]
def Eng.ok (d : Eng) : Prop := d.gs.length ≤ 1048576 ∧ (∀ x ∈ d.gs, x.ok) ∧ d.chans.length ≤ 1048576 ∧ (∀ x ∈ d.chans, x.ok) ∧ d.mus.length ≤ 1048576 ∧ (∀ x ∈ d.mus, x.ok)
def Eng.fit (d : Eng) : Prop := d.gs.length ≤ maxLen ∧ (∀ x ∈ d.gs, x.fit) ∧ d.chans.length ≤ maxLen ∧ (∀ x ∈ d.chans, x.fit) ∧ d.mus.length ≤ maxLen ∧ (∀ x ∈ d.mus, x.fit)
def Eng.sz (d : Eng) : Nat := szL Gor.sz d.gs + szL Chan.sz d.chans + szL Mutex.sz d.mus
theorem Eng.sz_ok {d : Eng} (h : d.sz ≤ 1048576) : d.ok := by
  unfold Eng.sz at h
  exact ⟨by unfold szL at h; omega, fun x hx => Gor.sz_ok (Nat.le_trans (szL_mem hx) (by omega)), by unfold szL at h; omega, fun x hx => Chan.sz_ok (Nat.le_trans (szL_mem hx) (by omega)), by unfold szL at h; omega, fun x hx => Mutex.sz_ok (Nat.le_trans (szL_mem hx) (by omega))⟩
theorem Eng_oI (d : Eng) : okI (.agg d.ow) = true := by simp
structure Prog where
  caps : List Int
  mus : Int
  sels : List Select
  procs : List Proc
@[simp] def Prog.fr (d : Prog) : List AV := [.fz (IntS d.caps), .int .i64 d.mus, .fz (SelectSf d.sels), .fz (ProcSf d.procs)]
@[simp] def Prog.ow (d : Prog) : List AV := [.own 1 (IntS d.caps), .int .i64 d.mus, .own 2 (SelectSo d.sels), .own 1 (ProcSo d.procs)]
def Prog.ok (d : Prog) : Prop := d.caps.length ≤ 1048576 ∧ d.sels.length ≤ 1048576 ∧ (∀ x ∈ d.sels, x.ok) ∧ d.procs.length ≤ 1048576 ∧ (∀ x ∈ d.procs, x.ok)
def Prog.fit (d : Prog) : Prop := d.caps.length ≤ maxLen ∧ d.sels.length ≤ maxLen ∧ (∀ x ∈ d.sels, x.fit) ∧ d.procs.length ≤ maxLen ∧ (∀ x ∈ d.procs, x.fit)
def Prog.sz (d : Prog) : Nat := d.caps.length + szL Select.sz d.sels + szL Proc.sz d.procs
theorem Prog.sz_ok {d : Prog} (h : d.sz ≤ 1048576) : d.ok := by
  unfold Prog.sz at h
  exact ⟨by omega, by unfold szL at h; omega, fun x hx => Select.sz_ok (Nat.le_trans (szL_mem hx) (by omega)), by unfold szL at h; omega, fun x hx => Proc.sz_ok (Nat.le_trans (szL_mem hx) (by omega))⟩
theorem Prog_oI (d : Prog) : okI (.agg d.ow) = true := by simp
end HT
