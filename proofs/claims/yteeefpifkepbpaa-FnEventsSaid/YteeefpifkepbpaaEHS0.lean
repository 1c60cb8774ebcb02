import Derived.Test.YteeefpifkepbpaaEG3
import Derived.Test.YteeefpifkepbpaaProg
import Derived.KernelRfl
/-
  My own texts (road H): HS0.
-/
namespace HS
open Go Go.Proofs HK
@[simp] theorem tk1 : tk Try.prog 1 = some (false, 1) := by kernel_rfl
@[simp] theorem tk2 : tk Try.prog 2 = some (false, 1) := by kernel_rfl
@[simp] theorem tint2 : tint Try.prog 2 = some .i64 := by kernel_rfl
@[simp] theorem tstr2 : tstr Try.prog 2 = false := by kernel_rfl
@[simp] theorem tzero2 : tzero Try.prog 2 = some [.int .i64 0] := by kernel_rfl
@[simp] theorem tbyt2 : tbyt Try.prog 2 = false := by kernel_rfl
@[simp] theorem tk3 : tk Try.prog 3 = some (false, 1) := by kernel_rfl
@[simp] theorem tint3 : tint Try.prog 3 = some .i64 := by kernel_rfl
@[simp] theorem tstr3 : tstr Try.prog 3 = false := by kernel_rfl
@[simp] theorem tzero3 : tzero Try.prog 3 = some [.int .i64 0] := by kernel_rfl
@[simp] theorem tbyt3 : tbyt Try.prog 3 = false := by kernel_rfl
@[simp] theorem tk4 : tk Try.prog 4 = some (false, 1) := by kernel_rfl
@[simp] theorem tstr4 : tstr Try.prog 4 = false := by kernel_rfl
@[simp] theorem tzero4 : tzero Try.prog 4 = some [.bool false] := by kernel_rfl
@[simp] theorem tk5 : tk Try.prog 5 = some (false, 1) := by kernel_rfl
@[simp] theorem tint5 : tint Try.prog 5 = some .u8 := by kernel_rfl
@[simp] theorem tstr5 : tstr Try.prog 5 = false := by kernel_rfl
@[simp] theorem tzero5 : tzero Try.prog 5 = some [.int .u8 0] := by kernel_rfl
@[simp] theorem tbyt5 : tbyt Try.prog 5 = false := by kernel_rfl
@[simp] theorem tk9 : tk Try.prog 9 = some (false, 1) := by kernel_rfl
@[simp] theorem tstr9 : tstr Try.prog 9 = true := by kernel_rfl
@[simp] theorem tzero9 : tzero Try.prog 9 = some [.str ⟨#[]⟩] := by kernel_rfl
@[simp] theorem tbyt9 : tbyt Try.prog 9 = false := by kernel_rfl
@[simp] theorem tk12 : tk Try.prog 12 = some (false, 1) := by kernel_rfl
@[simp] theorem tint12 : tint Try.prog 12 = some .u64 := by kernel_rfl
@[simp] theorem tstr12 : tstr Try.prog 12 = false := by kernel_rfl
@[simp] theorem tzero12 : tzero Try.prog 12 = some [.int .u64 0] := by kernel_rfl
@[simp] theorem tbyt12 : tbyt Try.prog 12 = false := by kernel_rfl
@[simp] theorem tk13 : tk Try.prog 13 = some (true, 2) := by kernel_rfl
@[simp] theorem tzero13 : tzero Try.prog 13 = some [.str ⟨#[]⟩, .int .u64 0] := by kernel_rfl
@[simp] theorem toff13_0 : toff Try.prog 13 0 = some 0 := by kernel_rfl
@[simp] theorem toff13_1 : toff Try.prog 13 1 = some 1 := by kernel_rfl
@[simp] theorem tplaces13 : tplaces Try.prog 13 = some ([(0, 1), (1, 1)], [.str ⟨#[]⟩, .int .u64 0]) := by kernel_rfl
@[simp] theorem tk20 : tk Try.prog 20 = some (false, 1) := by kernel_rfl
@[simp] theorem tk21 : tk Try.prog 21 = some (false, 1) := by kernel_rfl
@[simp] theorem tint21 : tint Try.prog 21 = some .i32 := by kernel_rfl
@[simp] theorem tstr21 : tstr Try.prog 21 = false := by kernel_rfl
@[simp] theorem tzero21 : tzero Try.prog 21 = some [.int .i32 0] := by kernel_rfl
@[simp] theorem tbyt21 : tbyt Try.prog 21 = false := by kernel_rfl
@[simp] theorem tk22 : tk Try.prog 22 = some (false, 1) := by kernel_rfl
@[simp] theorem tstr22 : tstr Try.prog 22 = false := by kernel_rfl
@[simp] theorem tzero22 : tzero Try.prog 22 = some [.nil] := by kernel_rfl
@[simp] theorem tbyt22 : tbyt Try.prog 22 = true := by kernel_rfl
@[simp] theorem tel22 : tel Try.prog 22 = some (1, 1) := by kernel_rfl
@[simp] theorem tzeroE22 : tzeroE Try.prog 22 = some (1, 1, [.int .u8 0]) := by kernel_rfl
@[simp] theorem tk23 : tk Try.prog 23 = some (true, 4) := by kernel_rfl
@[simp] theorem tzero23 : tzero Try.prog 23 = some [.int .i64 0, .int .i64 0, .int .i64 0, .int .i64 0] := by kernel_rfl
@[simp] theorem toff23_0 : toff Try.prog 23 0 = some 0 := by kernel_rfl
@[simp] theorem toff23_1 : toff Try.prog 23 1 = some 1 := by kernel_rfl
@[simp] theorem toff23_2 : toff Try.prog 23 2 = some 2 := by kernel_rfl
@[simp] theorem toff23_3 : toff Try.prog 23 3 = some 3 := by kernel_rfl
@[simp] theorem tplaces23 : tplaces Try.prog 23 = some ([(0, 1), (1, 1), (2, 1), (3, 1)], [.int .i64 0, .int .i64 0, .int .i64 0, .int .i64 0]) := by kernel_rfl
@[simp] theorem tk24 : tk Try.prog 24 = some (true, 4) := by kernel_rfl
@[simp] theorem tzero24 : tzero Try.prog 24 = some [.int .i64 0, .int .i64 0, .int .i64 0, .int .i64 0] := by kernel_rfl
@[simp] theorem toff24_0 : toff Try.prog 24 0 = some 0 := by kernel_rfl
@[simp] theorem toff24_1 : toff Try.prog 24 1 = some 1 := by kernel_rfl
@[simp] theorem toff24_2 : toff Try.prog 24 2 = some 2 := by kernel_rfl
@[simp] theorem toff24_3 : toff Try.prog 24 3 = some 3 := by kernel_rfl
@[simp] theorem tplaces24 : tplaces Try.prog 24 = some ([(0, 1), (1, 1), (2, 1), (3, 1)], [.int .i64 0, .int .i64 0, .int .i64 0, .int .i64 0]) := by kernel_rfl
@[simp] theorem tk26 : tk Try.prog 26 = some (false, 1) := by kernel_rfl
@[simp] theorem tk27 : tk Try.prog 27 = some (false, 1) := by kernel_rfl
@[simp] theorem tk28 : tk Try.prog 28 = some (true, 4) := by kernel_rfl
@[simp] theorem tzero28 : tzero Try.prog 28 = some [.int .i64 0, .int .i64 0, .int .i64 0, .int .i64 0] := by kernel_rfl
@[simp] theorem toff28_0 : toff Try.prog 28 0 = some 0 := by kernel_rfl
@[simp] theorem toff28_1 : toff Try.prog 28 1 = some 1 := by kernel_rfl
@[simp] theorem toff28_2 : toff Try.prog 28 2 = some 2 := by kernel_rfl
@[simp] theorem toff28_3 : toff Try.prog 28 3 = some 3 := by kernel_rfl
@[simp] theorem tplaces28 : tplaces Try.prog 28 = some ([(0, 1), (1, 1), (2, 1), (3, 1)], [.int .i64 0, .int .i64 0, .int .i64 0, .int .i64 0]) := by kernel_rfl
@[simp] theorem tk29 : tk Try.prog 29 = some (false, 1) := by kernel_rfl
@[simp] theorem tk30 : tk Try.prog 30 = some (false, 1) := by kernel_rfl
@[simp] theorem tk31 : tk Try.prog 31 = some (false, 1) := by kernel_rfl
@[simp] theorem tk32 : tk Try.prog 32 = some (false, 1) := by kernel_rfl
@[simp] theorem tk33 : tk Try.prog 33 = some (false, 1) := by kernel_rfl
@[simp] theorem tstr33 : tstr Try.prog 33 = false := by kernel_rfl
@[simp] theorem tzero33 : tzero Try.prog 33 = some [.nil] := by kernel_rfl
@[simp] theorem tbyt33 : tbyt Try.prog 33 = false := by kernel_rfl
@[simp] theorem tel33 : tel Try.prog 33 = some (4, 32) := by kernel_rfl
@[simp] theorem tzeroE33 : tzeroE Try.prog 33 = some (4, 32, [.int .i64 0, .int .i64 0, .int .i64 0, .int .i64 0]) := by kernel_rfl
@[simp] theorem tk34 : tk Try.prog 34 = some (false, 1) := by kernel_rfl
@[simp] theorem tk35 : tk Try.prog 35 = some (false, 1) := by kernel_rfl
@[simp] theorem tstr35 : tstr Try.prog 35 = false := by kernel_rfl
@[simp] theorem tzero35 : tzero Try.prog 35 = some [.nil] := by kernel_rfl
@[simp] theorem tbyt35 : tbyt Try.prog 35 = false := by kernel_rfl
@[simp] theorem tel35 : tel Try.prog 35 = some (4, 32) := by kernel_rfl
@[simp] theorem tzeroE35 : tzeroE Try.prog 35 = some (4, 32, [.int .i64 0, .int .i64 0, .int .i64 0, .int .i64 0]) := by kernel_rfl
@[simp] theorem tk36 : tk Try.prog 36 = some (false, 1) := by kernel_rfl
@[simp] theorem tk37 : tk Try.prog 37 = some (false, 1) := by kernel_rfl
@[simp] theorem tk38 : tk Try.prog 38 = some (false, 1) := by kernel_rfl
@[simp] theorem tk39 : tk Try.prog 39 = some (false, 1) := by kernel_rfl
@[simp] theorem tk40 : tk Try.prog 40 = some (false, 1) := by kernel_rfl
@[simp] theorem tk41 : tk Try.prog 41 = some (true, 2) := by kernel_rfl
@[simp] theorem tzero41 : tzero Try.prog 41 = some [.int .i64 0, .nil] := by kernel_rfl
@[simp] theorem toff41_0 : toff Try.prog 41 0 = some 0 := by kernel_rfl
@[simp] theorem toff41_1 : toff Try.prog 41 1 = some 1 := by kernel_rfl
@[simp] theorem tplaces41 : tplaces Try.prog 41 = some ([(0, 1), (1, 1)], [.int .i64 0, .nil]) := by kernel_rfl
@[simp] theorem tk42 : tk Try.prog 42 = some (true, 2) := by kernel_rfl
@[simp] theorem tzero42 : tzero Try.prog 42 = some [.int .i64 0, .nil] := by kernel_rfl
@[simp] theorem toff42_0 : toff Try.prog 42 0 = some 0 := by kernel_rfl
@[simp] theorem toff42_1 : toff Try.prog 42 1 = some 1 := by kernel_rfl
@[simp] theorem tplaces42 : tplaces Try.prog 42 = some ([(0, 1), (1, 1)], [.int .i64 0, .nil]) := by kernel_rfl
@[simp] theorem tk43 : tk Try.prog 43 = some (false, 1) := by kernel_rfl
@[simp] theorem tk44 : tk Try.prog 44 = some (true, 2) := by kernel_rfl
@[simp] theorem tzero44 : tzero Try.prog 44 = some [.int .i64 0, .nil] := by kernel_rfl
@[simp] theorem toff44_0 : toff Try.prog 44 0 = some 0 := by kernel_rfl
@[simp] theorem toff44_1 : toff Try.prog 44 1 = some 1 := by kernel_rfl
@[simp] theorem tplaces44 : tplaces Try.prog 44 = some ([(0, 1), (1, 1)], [.int .i64 0, .nil]) := by kernel_rfl
@[simp] theorem tk45 : tk Try.prog 45 = some (true, 2) := by kernel_rfl
@[simp] theorem tzero45 : tzero Try.prog 45 = some [.int .i64 0, .nil] := by kernel_rfl
@[simp] theorem toff45_0 : toff Try.prog 45 0 = some 0 := by kernel_rfl
@[simp] theorem toff45_1 : toff Try.prog 45 1 = some 1 := by kernel_rfl
@[simp] theorem tplaces45 : tplaces Try.prog 45 = some ([(0, 1), (1, 1)], [.int .i64 0, .nil]) := by kernel_rfl
@[simp] theorem tk46 : tk Try.prog 46 = some (false, 1) := by kernel_rfl
@[simp] theorem tk47 : tk Try.prog 47 = some (false, 1) := by kernel_rfl
@[simp] theorem tk48 : tk Try.prog 48 = some (false, 1) := by kernel_rfl
@[simp] theorem tk49 : tk Try.prog 49 = some (false, 1) := by kernel_rfl
@[simp] theorem tk50 : tk Try.prog 50 = some (false, 1) := by kernel_rfl
@[simp] theorem tk51 : tk Try.prog 51 = some (false, 1) := by kernel_rfl
@[simp] theorem tk52 : tk Try.prog 52 = some (false, 1) := by kernel_rfl
@[simp] theorem tk53 : tk Try.prog 53 = some (false, 1) := by kernel_rfl
@[simp] theorem tk55 : tk Try.prog 55 = some (false, 1) := by kernel_rfl
@[simp] theorem tk56 : tk Try.prog 56 = some (false, 1) := by kernel_rfl
@[simp] theorem tk57 : tk Try.prog 57 = some (false, 1) := by kernel_rfl
@[simp] theorem tk59 : tk Try.prog 59 = some (false, 1) := by kernel_rfl
@[simp] theorem tk60 : tk Try.prog 60 = some (false, 1) := by kernel_rfl
@[simp] theorem tk61 : tk Try.prog 61 = some (false, 1) := by kernel_rfl
@[simp] theorem tk62 : tk Try.prog 62 = some (false, 1) := by kernel_rfl
@[simp] theorem tk64 : tk Try.prog 64 = some (false, 1) := by kernel_rfl
@[simp] theorem tk65 : tk Try.prog 65 = some (false, 1) := by kernel_rfl
@[simp] theorem tk66 : tk Try.prog 66 = some (false, 1) := by kernel_rfl
@[simp] theorem tk67 : tk Try.prog 67 = some (false, 1) := by kernel_rfl
@[simp] theorem tk68 : tk Try.prog 68 = some (false, 1) := by kernel_rfl
@[simp] theorem tk69 : tk Try.prog 69 = some (false, 1) := by kernel_rfl
@[simp] theorem tstr69 : tstr Try.prog 69 = false := by kernel_rfl
@[simp] theorem tzero69 : tzero Try.prog 69 = some [.nil] := by kernel_rfl
@[simp] theorem tbyt69 : tbyt Try.prog 69 = false := by kernel_rfl
@[simp] theorem tel69 : tel Try.prog 69 = some (1, 8) := by kernel_rfl
@[simp] theorem tzeroE69 : tzeroE Try.prog 69 = some (1, 8, [.int .i64 0]) := by kernel_rfl
@[simp] theorem tk70 : tk Try.prog 70 = some (false, 1) := by kernel_rfl
@[simp] theorem tk71 : tk Try.prog 71 = some (false, 1) := by kernel_rfl
@[simp] theorem tk72 : tk Try.prog 72 = some (false, 1) := by kernel_rfl
@[simp] theorem tk74 : tk Try.prog 74 = some (false, 1) := by kernel_rfl
@[simp] theorem tk75 : tk Try.prog 75 = some (false, 1) := by kernel_rfl
@[simp] theorem tk76 : tk Try.prog 76 = some (false, 1) := by kernel_rfl
@[simp] theorem tstr76 : tstr Try.prog 76 = false := by kernel_rfl
@[simp] theorem tzero76 : tzero Try.prog 76 = some [.nil] := by kernel_rfl
@[simp] theorem tbyt76 : tbyt Try.prog 76 = false := by kernel_rfl
@[simp] theorem tel76 : tel Try.prog 76 = some (1, 16) := by kernel_rfl
@[simp] theorem tzeroE76 : tzeroE Try.prog 76 = some (1, 16, [.str ⟨#[]⟩]) := by kernel_rfl
@[simp] theorem tk77 : tk Try.prog 77 = some (false, 1) := by kernel_rfl
@[simp] theorem tk79 : tk Try.prog 79 = some (false, 1) := by kernel_rfl
@[simp] theorem tk80 : tk Try.prog 80 = some (true, 3) := by kernel_rfl
@[simp] theorem tzero80 : tzero Try.prog 80 = some [.int .i64 0, .int .i64 0, .int .i64 0] := by kernel_rfl
@[simp] theorem tel80 : tel Try.prog 80 = none := by kernel_rfl
@[simp] theorem tplaces80 : tplaces Try.prog 80 = none := by kernel_rfl
@[simp] theorem tarr80 : tarr Try.prog 80 = some (3, 1) := by kernel_rfl
@[simp] theorem tarrZ80 : tarrZ Try.prog 80 = some [.int .i64 0, .int .i64 0, .int .i64 0] := by kernel_rfl
@[simp] theorem tk81 : tk Try.prog 81 = some (false, 1) := by kernel_rfl
@[simp] theorem tk82 : tk Try.prog 82 = some (false, 1) := by kernel_rfl
@[simp] theorem tk83 : tk Try.prog 83 = some (false, 1) := by kernel_rfl
@[simp] theorem tk84 : tk Try.prog 84 = some (true, 3) := by kernel_rfl
@[simp] theorem tzero84 : tzero Try.prog 84 = some [.nil, .int .i64 0, .int .i64 0] := by kernel_rfl
@[simp] theorem toff84_0 : toff Try.prog 84 0 = some 0 := by kernel_rfl
@[simp] theorem toff84_1 : toff Try.prog 84 1 = some 1 := by kernel_rfl
@[simp] theorem toff84_2 : toff Try.prog 84 2 = some 2 := by kernel_rfl
@[simp] theorem tplaces84 : tplaces Try.prog 84 = some ([(0, 1), (1, 1), (2, 1)], [.nil, .int .i64 0, .int .i64 0]) := by kernel_rfl
@[simp] theorem tk85 : tk Try.prog 85 = some (true, 3) := by kernel_rfl
@[simp] theorem tzero85 : tzero Try.prog 85 = some [.nil, .int .i64 0, .int .i64 0] := by kernel_rfl
@[simp] theorem toff85_0 : toff Try.prog 85 0 = some 0 := by kernel_rfl
@[simp] theorem toff85_1 : toff Try.prog 85 1 = some 1 := by kernel_rfl
@[simp] theorem toff85_2 : toff Try.prog 85 2 = some 2 := by kernel_rfl
@[simp] theorem tplaces85 : tplaces Try.prog 85 = some ([(0, 1), (1, 1), (2, 1)], [.nil, .int .i64 0, .int .i64 0]) := by kernel_rfl
@[simp] theorem tk86 : tk Try.prog 86 = some (false, 1) := by kernel_rfl
@[simp] theorem tk87 : tk Try.prog 87 = some (true, 1) := by kernel_rfl
@[simp] theorem tzero87 : tzero Try.prog 87 = some [.nil] := by kernel_rfl
@[simp] theorem toff87_0 : toff Try.prog 87 0 = some 0 := by kernel_rfl
@[simp] theorem tplaces87 : tplaces Try.prog 87 = some ([(0, 1)], [.nil]) := by kernel_rfl
@[simp] theorem tk88 : tk Try.prog 88 = some (true, 1) := by kernel_rfl
@[simp] theorem tzero88 : tzero Try.prog 88 = some [.nil] := by kernel_rfl
@[simp] theorem toff88_0 : toff Try.prog 88 0 = some 0 := by kernel_rfl
@[simp] theorem tplaces88 : tplaces Try.prog 88 = some ([(0, 1)], [.nil]) := by kernel_rfl
@[simp] theorem tk89 : tk Try.prog 89 = some (false, 1) := by kernel_rfl
@[simp] theorem tstr89 : tstr Try.prog 89 = false := by kernel_rfl
@[simp] theorem tzero89 : tzero Try.prog 89 = some [.nil] := by kernel_rfl
@[simp] theorem tbyt89 : tbyt Try.prog 89 = false := by kernel_rfl
@[simp] theorem tel89 : tel Try.prog 89 = some (1, 24) := by kernel_rfl
@[simp] theorem tzeroE89 : tzeroE Try.prog 89 = some (1, 24, [.nil]) := by kernel_rfl
@[simp] theorem tk90 : tk Try.prog 90 = some (false, 1) := by kernel_rfl
@[simp] theorem tk91 : tk Try.prog 91 = some (false, 1) := by kernel_rfl
@[simp] theorem tk92 : tk Try.prog 92 = some (false, 1) := by kernel_rfl
@[simp] theorem tk93 : tk Try.prog 93 = some (false, 1) := by kernel_rfl
@[simp] theorem tk95 : tk Try.prog 95 = some (false, 1) := by kernel_rfl
@[simp] theorem tk96 : tk Try.prog 96 = some (false, 1) := by kernel_rfl
@[simp] theorem tk97 : tk Try.prog 97 = some (false, 1) := by kernel_rfl
@[simp] theorem tk98 : tk Try.prog 98 = some (false, 1) := by kernel_rfl
@[simp] theorem tk99 : tk Try.prog 99 = some (false, 1) := by kernel_rfl
@[simp] theorem tk100 : tk Try.prog 100 = some (false, 1) := by kernel_rfl
@[simp] theorem tk101 : tk Try.prog 101 = some (false, 1) := by kernel_rfl
@[simp] theorem tk103 : tk Try.prog 103 = some (false, 1) := by kernel_rfl
@[simp] theorem tk104 : tk Try.prog 104 = some (false, 1) := by kernel_rfl
@[simp] theorem tk105 : tk Try.prog 105 = some (true, 2) := by kernel_rfl
@[simp] theorem toff105_0 : toff Try.prog 105 0 = some 0 := by kernel_rfl
@[simp] theorem toff105_1 : toff Try.prog 105 1 = some 1 := by kernel_rfl
@[simp] theorem tk106 : tk Try.prog 106 = some (true, 2) := by kernel_rfl
@[simp] theorem toff106_0 : toff Try.prog 106 0 = some 0 := by kernel_rfl
@[simp] theorem toff106_1 : toff Try.prog 106 1 = some 1 := by kernel_rfl
@[simp] theorem tk107 : tk Try.prog 107 = some (false, 1) := by kernel_rfl
@[simp] theorem tk108 : tk Try.prog 108 = some (false, 1) := by kernel_rfl
@[simp] theorem tk109 : tk Try.prog 109 = some (false, 1) := by kernel_rfl
@[simp] theorem tk111 : tk Try.prog 111 = some (false, 1) := by kernel_rfl
@[simp] theorem tk112 : tk Try.prog 112 = some (false, 1) := by kernel_rfl
@[simp] theorem tk113 : tk Try.prog 113 = some (false, 1) := by kernel_rfl
@[simp] theorem tint113 : tint Try.prog 113 = some .u64 := by kernel_rfl
@[simp] theorem tstr113 : tstr Try.prog 113 = false := by kernel_rfl
@[simp] theorem tzero113 : tzero Try.prog 113 = some [.int .u64 0] := by kernel_rfl
@[simp] theorem tbyt113 : tbyt Try.prog 113 = false := by kernel_rfl
@[simp] theorem tk114 : tk Try.prog 114 = some (false, 1) := by kernel_rfl
@[simp] theorem tk115 : tk Try.prog 115 = some (false, 1) := by kernel_rfl
@[simp] theorem tk116 : tk Try.prog 116 = some (false, 1) := by kernel_rfl
@[simp] theorem tk117 : tk Try.prog 117 = some (false, 1) := by kernel_rfl
@[simp] theorem tk118 : tk Try.prog 118 = some (false, 1) := by kernel_rfl
@[simp] theorem tk119 : tk Try.prog 119 = some (false, 1) := by kernel_rfl
@[simp] theorem tk125 : tk Try.prog 125 = some (false, 1) := by kernel_rfl
@[simp] theorem tk126 : tk Try.prog 126 = some (false, 1) := by kernel_rfl
@[simp] theorem tint126 : tint Try.prog 126 = some .u32 := by kernel_rfl
@[simp] theorem tstr126 : tstr Try.prog 126 = false := by kernel_rfl
@[simp] theorem tzero126 : tzero Try.prog 126 = some [.int .u32 0] := by kernel_rfl
@[simp] theorem tbyt126 : tbyt Try.prog 126 = false := by kernel_rfl
@[simp] theorem tk129 : tk Try.prog 129 = some (false, 1) := by kernel_rfl
end HS
