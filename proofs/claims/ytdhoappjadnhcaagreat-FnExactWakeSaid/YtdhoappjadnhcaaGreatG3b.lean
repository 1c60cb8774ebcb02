import Derived.Test.YtdhoappjadnhcaaGreatG3
import Derived.Test.YtdhoappjadnhcaaGreatProg
import Derived.KernelRfl
import Derived.Test.YtdhoappjadnhcaaGreatG2b
/-
  My own texts (road H): HCT0 HCT1.
-/
set_option maxHeartbeats 8000000
namespace HT
open Go Go.Proofs HK
@[simp] theorem tk1 : tk Tryz.prog 1 = some (false, 1) := by kernel_rfl
@[simp] theorem tk2 : tk Tryz.prog 2 = some (false, 1) := by kernel_rfl
@[simp] theorem tint2 : tint Tryz.prog 2 = some .i64 := by kernel_rfl
@[simp] theorem tstr2 : tstr Tryz.prog 2 = false := by kernel_rfl
@[simp] theorem tzero2 : tzero Tryz.prog 2 = some [.int .i64 0] := by kernel_rfl
@[simp] theorem tbyt2 : tbyt Tryz.prog 2 = false := by kernel_rfl
@[simp] theorem tk3 : tk Tryz.prog 3 = some (false, 1) := by kernel_rfl
@[simp] theorem tint3 : tint Tryz.prog 3 = some .i64 := by kernel_rfl
@[simp] theorem tstr3 : tstr Tryz.prog 3 = false := by kernel_rfl
@[simp] theorem tzero3 : tzero Tryz.prog 3 = some [.int .i64 0] := by kernel_rfl
@[simp] theorem tbyt3 : tbyt Tryz.prog 3 = false := by kernel_rfl
@[simp] theorem tk4 : tk Tryz.prog 4 = some (false, 1) := by kernel_rfl
@[simp] theorem tstr4 : tstr Tryz.prog 4 = false := by kernel_rfl
@[simp] theorem tzero4 : tzero Tryz.prog 4 = some [.bool false] := by kernel_rfl
@[simp] theorem tk5 : tk Tryz.prog 5 = some (false, 1) := by kernel_rfl
@[simp] theorem tint5 : tint Tryz.prog 5 = some .u8 := by kernel_rfl
@[simp] theorem tstr5 : tstr Tryz.prog 5 = false := by kernel_rfl
@[simp] theorem tzero5 : tzero Tryz.prog 5 = some [.int .u8 0] := by kernel_rfl
@[simp] theorem tbyt5 : tbyt Tryz.prog 5 = false := by kernel_rfl
@[simp] theorem tk9 : tk Tryz.prog 9 = some (false, 1) := by kernel_rfl
@[simp] theorem tint9 : tint Tryz.prog 9 = none := by kernel_rfl
@[simp] theorem tstr9 : tstr Tryz.prog 9 = true := by kernel_rfl
@[simp] theorem tzero9 : tzero Tryz.prog 9 = some [.str ⟨#[]⟩] := by kernel_rfl
@[simp] theorem tbyt9 : tbyt Tryz.prog 9 = false := by kernel_rfl
@[simp] theorem tk12 : tk Tryz.prog 12 = some (false, 1) := by kernel_rfl
@[simp] theorem tint12 : tint Tryz.prog 12 = some .u64 := by kernel_rfl
@[simp] theorem tstr12 : tstr Tryz.prog 12 = false := by kernel_rfl
@[simp] theorem tzero12 : tzero Tryz.prog 12 = some [.int .u64 0] := by kernel_rfl
@[simp] theorem tbyt12 : tbyt Tryz.prog 12 = false := by kernel_rfl
@[simp] theorem tk13 : tk Tryz.prog 13 = some (true, 2) := by kernel_rfl
@[simp] theorem tzero13 : tzero Tryz.prog 13 = some [.str ⟨#[]⟩, .int .u64 0] := by kernel_rfl
@[simp] theorem toff13_0 : toff Tryz.prog 13 0 = some 0 := by kernel_rfl
@[simp] theorem toff13_1 : toff Tryz.prog 13 1 = some 1 := by kernel_rfl
@[simp] theorem tplaces13 : tplaces Tryz.prog 13 = some ([(0, 1), (1, 1)], [.str ⟨#[]⟩, .int .u64 0]) := by kernel_rfl
@[simp] theorem tk20 : tk Tryz.prog 20 = some (false, 1) := by kernel_rfl
@[simp] theorem tk21 : tk Tryz.prog 21 = some (false, 1) := by kernel_rfl
@[simp] theorem tint21 : tint Tryz.prog 21 = some .i32 := by kernel_rfl
@[simp] theorem tstr21 : tstr Tryz.prog 21 = false := by kernel_rfl
@[simp] theorem tzero21 : tzero Tryz.prog 21 = some [.int .i32 0] := by kernel_rfl
@[simp] theorem tbyt21 : tbyt Tryz.prog 21 = false := by kernel_rfl
@[simp] theorem tk22 : tk Tryz.prog 22 = some (false, 1) := by kernel_rfl
@[simp] theorem tstr22 : tstr Tryz.prog 22 = false := by kernel_rfl
@[simp] theorem tzero22 : tzero Tryz.prog 22 = some [.nil] := by kernel_rfl
@[simp] theorem tbyt22 : tbyt Tryz.prog 22 = false := by kernel_rfl
@[simp] theorem tel22 : tel Tryz.prog 22 = some (1, 8) := by kernel_rfl
@[simp] theorem tzeroE22 : tzeroE Tryz.prog 22 = some (1, 8, [.int .i64 0]) := by kernel_rfl
@[simp] theorem tk23 : tk Tryz.prog 23 = some (false, 1) := by kernel_rfl
@[simp] theorem tstr23 : tstr Tryz.prog 23 = false := by kernel_rfl
@[simp] theorem tzero23 : tzero Tryz.prog 23 = some [.nil] := by kernel_rfl
@[simp] theorem tbyt23 : tbyt Tryz.prog 23 = false := by kernel_rfl
@[simp] theorem tel23 : tel Tryz.prog 23 = some (2, 32) := by kernel_rfl
@[simp] theorem tzeroE23 : tzeroE Tryz.prog 23 = some (2, 32, [.nil, .int .i64 0]) := by kernel_rfl
@[simp] theorem tk24 : tk Tryz.prog 24 = some (false, 1) := by kernel_rfl
@[simp] theorem tstr24 : tstr Tryz.prog 24 = false := by kernel_rfl
@[simp] theorem tzero24 : tzero Tryz.prog 24 = some [.nil] := by kernel_rfl
@[simp] theorem tbyt24 : tbyt Tryz.prog 24 = false := by kernel_rfl
@[simp] theorem tel24 : tel Tryz.prog 24 = some (1, 24) := by kernel_rfl
@[simp] theorem tzeroE24 : tzeroE Tryz.prog 24 = some (1, 24, [.nil]) := by kernel_rfl
@[simp] theorem tk25 : tk Tryz.prog 25 = some (true, 4) := by kernel_rfl
@[simp] theorem tzero25 : tzero Tryz.prog 25 = some [.nil, .int .i64 0, .nil, .nil] := by kernel_rfl
@[simp] theorem toff25_0 : toff Tryz.prog 25 0 = some 0 := by kernel_rfl
@[simp] theorem toff25_1 : toff Tryz.prog 25 1 = some 1 := by kernel_rfl
@[simp] theorem toff25_2 : toff Tryz.prog 25 2 = some 2 := by kernel_rfl
@[simp] theorem toff25_3 : toff Tryz.prog 25 3 = some 3 := by kernel_rfl
@[simp] theorem tplaces25 : tplaces Tryz.prog 25 = some ([(0, 1), (1, 1), (2, 1), (3, 1)], [.nil, .int .i64 0, .nil, .nil]) := by kernel_rfl
@[simp] theorem tk26 : tk Tryz.prog 26 = some (true, 4) := by kernel_rfl
@[simp] theorem tzero26 : tzero Tryz.prog 26 = some [.nil, .int .i64 0, .nil, .nil] := by kernel_rfl
@[simp] theorem toff26_0 : toff Tryz.prog 26 0 = some 0 := by kernel_rfl
@[simp] theorem toff26_1 : toff Tryz.prog 26 1 = some 1 := by kernel_rfl
@[simp] theorem toff26_2 : toff Tryz.prog 26 2 = some 2 := by kernel_rfl
@[simp] theorem toff26_3 : toff Tryz.prog 26 3 = some 3 := by kernel_rfl
@[simp] theorem tplaces26 : tplaces Tryz.prog 26 = some ([(0, 1), (1, 1), (2, 1), (3, 1)], [.nil, .int .i64 0, .nil, .nil]) := by kernel_rfl
@[simp] theorem tk27 : tk Tryz.prog 27 = some (false, 1) := by kernel_rfl
@[simp] theorem tstr27 : tstr Tryz.prog 27 = false := by kernel_rfl
@[simp] theorem tzero27 : tzero Tryz.prog 27 = some [.nil] := by kernel_rfl
@[simp] theorem tbyt27 : tbyt Tryz.prog 27 = false := by kernel_rfl
@[simp] theorem tel27 : tel Tryz.prog 27 = some (5, 72) := by kernel_rfl
@[simp] theorem tzeroE27 : tzeroE Tryz.prog 27 = some (5, 72, [.int .i64 0, .int .i64 0, .nil, .int .i64 0, .nil]) := by kernel_rfl
@[simp] theorem tk28 : tk Tryz.prog 28 = some (false, 1) := by kernel_rfl
@[simp] theorem tstr28 : tstr Tryz.prog 28 = false := by kernel_rfl
@[simp] theorem tzero28 : tzero Tryz.prog 28 = some [.nil] := by kernel_rfl
@[simp] theorem tbyt28 : tbyt Tryz.prog 28 = false := by kernel_rfl
@[simp] theorem tel28 : tel Tryz.prog 28 = some (5, 88) := by kernel_rfl
@[simp] theorem tzeroE28 : tzeroE Tryz.prog 28 = some (5, 88, [.int .i64 0, .nil, .nil, .nil, .bool false]) := by kernel_rfl
@[simp] theorem tk29 : tk Tryz.prog 29 = some (false, 1) := by kernel_rfl
@[simp] theorem tstr29 : tstr Tryz.prog 29 = false := by kernel_rfl
@[simp] theorem tzero29 : tzero Tryz.prog 29 = some [.nil] := by kernel_rfl
@[simp] theorem tbyt29 : tbyt Tryz.prog 29 = false := by kernel_rfl
@[simp] theorem tel29 : tel Tryz.prog 29 = some (2, 32) := by kernel_rfl
@[simp] theorem tzeroE29 : tzeroE Tryz.prog 29 = some (2, 32, [.int .i64 0, .nil]) := by kernel_rfl
@[simp] theorem tk30 : tk Tryz.prog 30 = some (true, 3) := by kernel_rfl
@[simp] theorem tzero30 : tzero Tryz.prog 30 = some [.nil, .nil, .nil] := by kernel_rfl
@[simp] theorem toff30_0 : toff Tryz.prog 30 0 = some 0 := by kernel_rfl
@[simp] theorem toff30_1 : toff Tryz.prog 30 1 = some 1 := by kernel_rfl
@[simp] theorem toff30_2 : toff Tryz.prog 30 2 = some 2 := by kernel_rfl
@[simp] theorem tplaces30 : tplaces Tryz.prog 30 = some ([(0, 1), (1, 1), (2, 1)], [.nil, .nil, .nil]) := by kernel_rfl
@[simp] theorem tk31 : tk Tryz.prog 31 = some (true, 3) := by kernel_rfl
@[simp] theorem tzero31 : tzero Tryz.prog 31 = some [.nil, .nil, .nil] := by kernel_rfl
@[simp] theorem toff31_0 : toff Tryz.prog 31 0 = some 0 := by kernel_rfl
@[simp] theorem toff31_1 : toff Tryz.prog 31 1 = some 1 := by kernel_rfl
@[simp] theorem toff31_2 : toff Tryz.prog 31 2 = some 2 := by kernel_rfl
@[simp] theorem tplaces31 : tplaces Tryz.prog 31 = some ([(0, 1), (1, 1), (2, 1)], [.nil, .nil, .nil]) := by kernel_rfl
@[simp] theorem tk32 : tk Tryz.prog 32 = some (true, 3) := by kernel_rfl
@[simp] theorem tzero32 : tzero Tryz.prog 32 = some [.int .i64 0, .int .i64 0, .int .i64 0] := by kernel_rfl
@[simp] theorem toff32_0 : toff Tryz.prog 32 0 = some 0 := by kernel_rfl
@[simp] theorem toff32_1 : toff Tryz.prog 32 1 = some 1 := by kernel_rfl
@[simp] theorem toff32_2 : toff Tryz.prog 32 2 = some 2 := by kernel_rfl
@[simp] theorem tsh32 : tsh Tryz.prog 32 = some [0, 0, 0] := by kernel_rfl
@[simp] theorem tplaces32 : tplaces Tryz.prog 32 = some ([(0, 1), (1, 1), (2, 1)], [.int .i64 0, .int .i64 0, .int .i64 0]) := by kernel_rfl
@[simp] theorem tk33 : tk Tryz.prog 33 = some (true, 3) := by kernel_rfl
@[simp] theorem tzero33 : tzero Tryz.prog 33 = some [.int .i64 0, .int .i64 0, .int .i64 0] := by kernel_rfl
@[simp] theorem toff33_0 : toff Tryz.prog 33 0 = some 0 := by kernel_rfl
@[simp] theorem toff33_1 : toff Tryz.prog 33 1 = some 1 := by kernel_rfl
@[simp] theorem toff33_2 : toff Tryz.prog 33 2 = some 2 := by kernel_rfl
@[simp] theorem tsh33 : tsh Tryz.prog 33 = some [0, 0, 0] := by kernel_rfl
@[simp] theorem tplaces33 : tplaces Tryz.prog 33 = some ([(0, 1), (1, 1), (2, 1)], [.int .i64 0, .int .i64 0, .int .i64 0]) := by kernel_rfl
@[simp] theorem tk34 : tk Tryz.prog 34 = some (false, 1) := by kernel_rfl
@[simp] theorem tk35 : tk Tryz.prog 35 = some (false, 1) := by kernel_rfl
@[simp] theorem tk36 : tk Tryz.prog 36 = some (false, 1) := by kernel_rfl
@[simp] theorem tstr36 : tstr Tryz.prog 36 = false := by kernel_rfl
@[simp] theorem tzero36 : tzero Tryz.prog 36 = some [.nil] := by kernel_rfl
@[simp] theorem tbyt36 : tbyt Tryz.prog 36 = false := by kernel_rfl
@[simp] theorem tel36 : tel Tryz.prog 36 = some (5, 72) := by kernel_rfl
@[simp] theorem tzeroE36 : tzeroE Tryz.prog 36 = some (5, 72, [.int .i64 0, .int .i64 0, .nil, .int .i64 0, .nil]) := by kernel_rfl
@[simp] theorem tk37 : tk Tryz.prog 37 = some (false, 1) := by kernel_rfl
@[simp] theorem tstr37 : tstr Tryz.prog 37 = false := by kernel_rfl
@[simp] theorem tzero37 : tzero Tryz.prog 37 = some [.nil] := by kernel_rfl
@[simp] theorem tbyt37 : tbyt Tryz.prog 37 = false := by kernel_rfl
@[simp] theorem tel37 : tel Tryz.prog 37 = some (5, 88) := by kernel_rfl
@[simp] theorem tzeroE37 : tzeroE Tryz.prog 37 = some (5, 88, [.int .i64 0, .nil, .nil, .nil, .bool false]) := by kernel_rfl
@[simp] theorem tk38 : tk Tryz.prog 38 = some (false, 1) := by kernel_rfl
@[simp] theorem tstr38 : tstr Tryz.prog 38 = false := by kernel_rfl
@[simp] theorem tzero38 : tzero Tryz.prog 38 = some [.nil] := by kernel_rfl
@[simp] theorem tbyt38 : tbyt Tryz.prog 38 = false := by kernel_rfl
@[simp] theorem tel38 : tel Tryz.prog 38 = some (2, 32) := by kernel_rfl
@[simp] theorem tzeroE38 : tzeroE Tryz.prog 38 = some (2, 32, [.int .i64 0, .nil]) := by kernel_rfl
@[simp] theorem tk39 : tk Tryz.prog 39 = some (true, 3) := by kernel_rfl
@[simp] theorem tzero39 : tzero Tryz.prog 39 = some [.nil, .nil, .nil] := by kernel_rfl
@[simp] theorem toff39_0 : toff Tryz.prog 39 0 = some 0 := by kernel_rfl
@[simp] theorem toff39_1 : toff Tryz.prog 39 1 = some 1 := by kernel_rfl
@[simp] theorem toff39_2 : toff Tryz.prog 39 2 = some 2 := by kernel_rfl
@[simp] theorem tplaces39 : tplaces Tryz.prog 39 = some ([(0, 1), (1, 1), (2, 1)], [.nil, .nil, .nil]) := by kernel_rfl
@[simp] theorem tk40 : tk Tryz.prog 40 = some (true, 3) := by kernel_rfl
@[simp] theorem tzero40 : tzero Tryz.prog 40 = some [.nil, .nil, .nil] := by kernel_rfl
@[simp] theorem toff40_0 : toff Tryz.prog 40 0 = some 0 := by kernel_rfl
@[simp] theorem toff40_1 : toff Tryz.prog 40 1 = some 1 := by kernel_rfl
@[simp] theorem toff40_2 : toff Tryz.prog 40 2 = some 2 := by kernel_rfl
@[simp] theorem tplaces40 : tplaces Tryz.prog 40 = some ([(0, 1), (1, 1), (2, 1)], [.nil, .nil, .nil]) := by kernel_rfl
@[simp] theorem tk42 : tk Tryz.prog 42 = some (false, 1) := by kernel_rfl
@[simp] theorem tk43 : tk Tryz.prog 43 = some (false, 1) := by kernel_rfl
@[simp] theorem tstr43 : tstr Tryz.prog 43 = false := by kernel_rfl
@[simp] theorem tzero43 : tzero Tryz.prog 43 = some [.nil] := by kernel_rfl
@[simp] theorem tbyt43 : tbyt Tryz.prog 43 = false := by kernel_rfl
@[simp] theorem tel43 : tel Tryz.prog 43 = some (2, 32) := by kernel_rfl
@[simp] theorem tzeroE43 : tzeroE Tryz.prog 43 = some (2, 32, [.nil, .int .i64 0]) := by kernel_rfl
@[simp] theorem tk44 : tk Tryz.prog 44 = some (false, 1) := by kernel_rfl
@[simp] theorem tstr44 : tstr Tryz.prog 44 = false := by kernel_rfl
@[simp] theorem tzero44 : tzero Tryz.prog 44 = some [.nil] := by kernel_rfl
@[simp] theorem tbyt44 : tbyt Tryz.prog 44 = false := by kernel_rfl
@[simp] theorem tel44 : tel Tryz.prog 44 = some (1, 24) := by kernel_rfl
@[simp] theorem tzeroE44 : tzeroE Tryz.prog 44 = some (1, 24, [.nil]) := by kernel_rfl
@[simp] theorem tk45 : tk Tryz.prog 45 = some (true, 4) := by kernel_rfl
@[simp] theorem tzero45 : tzero Tryz.prog 45 = some [.nil, .int .i64 0, .nil, .nil] := by kernel_rfl
@[simp] theorem toff45_0 : toff Tryz.prog 45 0 = some 0 := by kernel_rfl
@[simp] theorem toff45_1 : toff Tryz.prog 45 1 = some 1 := by kernel_rfl
@[simp] theorem toff45_2 : toff Tryz.prog 45 2 = some 2 := by kernel_rfl
@[simp] theorem toff45_3 : toff Tryz.prog 45 3 = some 3 := by kernel_rfl
@[simp] theorem tplaces45 : tplaces Tryz.prog 45 = some ([(0, 1), (1, 1), (2, 1), (3, 1)], [.nil, .int .i64 0, .nil, .nil]) := by kernel_rfl
@[simp] theorem tk46 : tk Tryz.prog 46 = some (true, 4) := by kernel_rfl
@[simp] theorem tzero46 : tzero Tryz.prog 46 = some [.nil, .int .i64 0, .nil, .nil] := by kernel_rfl
@[simp] theorem toff46_0 : toff Tryz.prog 46 0 = some 0 := by kernel_rfl
@[simp] theorem toff46_1 : toff Tryz.prog 46 1 = some 1 := by kernel_rfl
@[simp] theorem toff46_2 : toff Tryz.prog 46 2 = some 2 := by kernel_rfl
@[simp] theorem toff46_3 : toff Tryz.prog 46 3 = some 3 := by kernel_rfl
@[simp] theorem tplaces46 : tplaces Tryz.prog 46 = some ([(0, 1), (1, 1), (2, 1), (3, 1)], [.nil, .int .i64 0, .nil, .nil]) := by kernel_rfl
@[simp] theorem tk47 : tk Tryz.prog 47 = some (false, 1) := by kernel_rfl
@[simp] theorem tk48 : tk Tryz.prog 48 = some (false, 1) := by kernel_rfl
@[simp] theorem tk49 : tk Tryz.prog 49 = some (true, 3) := by kernel_rfl
@[simp] theorem tzero49 : tzero Tryz.prog 49 = some [.int .i64 0, .int .i64 0, .int .i64 0] := by kernel_rfl
@[simp] theorem toff49_0 : toff Tryz.prog 49 0 = some 0 := by kernel_rfl
@[simp] theorem toff49_1 : toff Tryz.prog 49 1 = some 1 := by kernel_rfl
@[simp] theorem toff49_2 : toff Tryz.prog 49 2 = some 2 := by kernel_rfl
@[simp] theorem tsh49 : tsh Tryz.prog 49 = some [0, 0, 0] := by kernel_rfl
@[simp] theorem tplaces49 : tplaces Tryz.prog 49 = some ([(0, 1), (1, 1), (2, 1)], [.int .i64 0, .int .i64 0, .int .i64 0]) := by kernel_rfl
@[simp] theorem tk50 : tk Tryz.prog 50 = some (false, 1) := by kernel_rfl
@[simp] theorem tk51 : tk Tryz.prog 51 = some (false, 1) := by kernel_rfl
@[simp] theorem tk52 : tk Tryz.prog 52 = some (false, 1) := by kernel_rfl
@[simp] theorem tk53 : tk Tryz.prog 53 = some (false, 1) := by kernel_rfl
@[simp] theorem tk54 : tk Tryz.prog 54 = some (false, 1) := by kernel_rfl
@[simp] theorem tk55 : tk Tryz.prog 55 = some (false, 1) := by kernel_rfl
@[simp] theorem tk57 : tk Tryz.prog 57 = some (false, 1) := by kernel_rfl
@[simp] theorem tk58 : tk Tryz.prog 58 = some (false, 1) := by kernel_rfl
@[simp] theorem tk59 : tk Tryz.prog 59 = some (true, 2) := by kernel_rfl
@[simp] theorem tzero59 : tzero Tryz.prog 59 = some [.int .i64 0, .int .i64 0] := by kernel_rfl
@[simp] theorem toff59_0 : toff Tryz.prog 59 0 = some 0 := by kernel_rfl
@[simp] theorem toff59_1 : toff Tryz.prog 59 1 = some 1 := by kernel_rfl
@[simp] theorem tsh59 : tsh Tryz.prog 59 = some [0, 0] := by kernel_rfl
@[simp] theorem tplaces59 : tplaces Tryz.prog 59 = some ([(0, 1), (1, 1)], [.int .i64 0, .int .i64 0]) := by kernel_rfl
@[simp] theorem tk60 : tk Tryz.prog 60 = some (true, 2) := by kernel_rfl
@[simp] theorem tzero60 : tzero Tryz.prog 60 = some [.int .i64 0, .int .i64 0] := by kernel_rfl
@[simp] theorem toff60_0 : toff Tryz.prog 60 0 = some 0 := by kernel_rfl
@[simp] theorem toff60_1 : toff Tryz.prog 60 1 = some 1 := by kernel_rfl
@[simp] theorem tsh60 : tsh Tryz.prog 60 = some [0, 0] := by kernel_rfl
@[simp] theorem tplaces60 : tplaces Tryz.prog 60 = some ([(0, 1), (1, 1)], [.int .i64 0, .int .i64 0]) := by kernel_rfl
@[simp] theorem tk61 : tk Tryz.prog 61 = some (true, 4) := by kernel_rfl
@[simp] theorem tzero61 : tzero Tryz.prog 61 = some [.int .i64 0, .int .i64 0, .int .i64 0, .int .i64 0] := by kernel_rfl
@[simp] theorem toff61_0 : toff Tryz.prog 61 0 = some 0 := by kernel_rfl
@[simp] theorem toff61_1 : toff Tryz.prog 61 1 = some 1 := by kernel_rfl
@[simp] theorem toff61_2 : toff Tryz.prog 61 2 = some 2 := by kernel_rfl
@[simp] theorem toff61_3 : toff Tryz.prog 61 3 = some 3 := by kernel_rfl
@[simp] theorem tsh61 : tsh Tryz.prog 61 = some [0, 0, 0, 0] := by kernel_rfl
@[simp] theorem tplaces61 : tplaces Tryz.prog 61 = some ([(0, 1), (1, 1), (2, 1), (3, 1)], [.int .i64 0, .int .i64 0, .int .i64 0, .int .i64 0]) := by kernel_rfl
@[simp] theorem tk62 : tk Tryz.prog 62 = some (true, 4) := by kernel_rfl
@[simp] theorem tzero62 : tzero Tryz.prog 62 = some [.int .i64 0, .int .i64 0, .int .i64 0, .int .i64 0] := by kernel_rfl
@[simp] theorem toff62_0 : toff Tryz.prog 62 0 = some 0 := by kernel_rfl
@[simp] theorem toff62_1 : toff Tryz.prog 62 1 = some 1 := by kernel_rfl
@[simp] theorem toff62_2 : toff Tryz.prog 62 2 = some 2 := by kernel_rfl
@[simp] theorem toff62_3 : toff Tryz.prog 62 3 = some 3 := by kernel_rfl
@[simp] theorem tsh62 : tsh Tryz.prog 62 = some [0, 0, 0, 0] := by kernel_rfl
@[simp] theorem tplaces62 : tplaces Tryz.prog 62 = some ([(0, 1), (1, 1), (2, 1), (3, 1)], [.int .i64 0, .int .i64 0, .int .i64 0, .int .i64 0]) := by kernel_rfl
@[simp] theorem tk64 : tk Tryz.prog 64 = some (false, 1) := by kernel_rfl
@[simp] theorem tk65 : tk Tryz.prog 65 = some (true, 2) := by kernel_rfl
@[simp] theorem tzero65 : tzero Tryz.prog 65 = some [.int .i64 0, .int .i64 0] := by kernel_rfl
@[simp] theorem toff65_0 : toff Tryz.prog 65 0 = some 0 := by kernel_rfl
@[simp] theorem toff65_1 : toff Tryz.prog 65 1 = some 1 := by kernel_rfl
@[simp] theorem tsh65 : tsh Tryz.prog 65 = some [0, 0] := by kernel_rfl
@[simp] theorem tplaces65 : tplaces Tryz.prog 65 = some ([(0, 1), (1, 1)], [.int .i64 0, .int .i64 0]) := by kernel_rfl
@[simp] theorem tk66 : tk Tryz.prog 66 = some (false, 1) := by kernel_rfl
@[simp] theorem tk67 : tk Tryz.prog 67 = some (false, 1) := by kernel_rfl
@[simp] theorem tk68 : tk Tryz.prog 68 = some (false, 1) := by kernel_rfl
@[simp] theorem tk69 : tk Tryz.prog 69 = some (true, 4) := by kernel_rfl
@[simp] theorem tzero69 : tzero Tryz.prog 69 = some [.int .i64 0, .int .i64 0, .int .i64 0, .int .i64 0] := by kernel_rfl
@[simp] theorem toff69_0 : toff Tryz.prog 69 0 = some 0 := by kernel_rfl
@[simp] theorem toff69_1 : toff Tryz.prog 69 1 = some 1 := by kernel_rfl
@[simp] theorem toff69_2 : toff Tryz.prog 69 2 = some 2 := by kernel_rfl
@[simp] theorem toff69_3 : toff Tryz.prog 69 3 = some 3 := by kernel_rfl
@[simp] theorem tsh69 : tsh Tryz.prog 69 = some [0, 0, 0, 0] := by kernel_rfl
@[simp] theorem tplaces69 : tplaces Tryz.prog 69 = some ([(0, 1), (1, 1), (2, 1), (3, 1)], [.int .i64 0, .int .i64 0, .int .i64 0, .int .i64 0]) := by kernel_rfl
@[simp] theorem tk70 : tk Tryz.prog 70 = some (false, 1) := by kernel_rfl
@[simp] theorem tk71 : tk Tryz.prog 71 = some (false, 1) := by kernel_rfl
@[simp] theorem tk72 : tk Tryz.prog 72 = some (false, 1) := by kernel_rfl
@[simp] theorem tk73 : tk Tryz.prog 73 = some (false, 1) := by kernel_rfl
@[simp] theorem tstr73 : tstr Tryz.prog 73 = false := by kernel_rfl
@[simp] theorem tzero73 : tzero Tryz.prog 73 = some [.nil] := by kernel_rfl
@[simp] theorem tbyt73 : tbyt Tryz.prog 73 = false := by kernel_rfl
@[simp] theorem tel73 : tel Tryz.prog 73 = some (2, 16) := by kernel_rfl
@[simp] theorem tzeroE73 : tzeroE Tryz.prog 73 = some (2, 16, [.int .i64 0, .int .i64 0]) := by kernel_rfl
@[simp] theorem tk74 : tk Tryz.prog 74 = some (false, 1) := by kernel_rfl
@[simp] theorem tk75 : tk Tryz.prog 75 = some (false, 1) := by kernel_rfl
@[simp] theorem tstr75 : tstr Tryz.prog 75 = false := by kernel_rfl
@[simp] theorem tzero75 : tzero Tryz.prog 75 = some [.nil] := by kernel_rfl
@[simp] theorem tbyt75 : tbyt Tryz.prog 75 = false := by kernel_rfl
@[simp] theorem tel75 : tel Tryz.prog 75 = some (4, 32) := by kernel_rfl
@[simp] theorem tzeroE75 : tzeroE Tryz.prog 75 = some (4, 32, [.int .i64 0, .int .i64 0, .int .i64 0, .int .i64 0]) := by kernel_rfl
@[simp] theorem tk77 : tk Tryz.prog 77 = some (false, 1) := by kernel_rfl
@[simp] theorem tk78 : tk Tryz.prog 78 = some (false, 1) := by kernel_rfl
@[simp] theorem tstr78 : tstr Tryz.prog 78 = false := by kernel_rfl
@[simp] theorem tzero78 : tzero Tryz.prog 78 = some [.nil] := by kernel_rfl
@[simp] theorem tbyt78 : tbyt Tryz.prog 78 = false := by kernel_rfl
@[simp] theorem tel78 : tel Tryz.prog 78 = some (2, 16) := by kernel_rfl
@[simp] theorem tzeroE78 : tzeroE Tryz.prog 78 = some (2, 16, [.int .i64 0, .int .i64 0]) := by kernel_rfl
@[simp] theorem tk79 : tk Tryz.prog 79 = some (false, 1) := by kernel_rfl
@[simp] theorem tk80 : tk Tryz.prog 80 = some (false, 1) := by kernel_rfl
@[simp] theorem tk81 : tk Tryz.prog 81 = some (false, 1) := by kernel_rfl
@[simp] theorem tk82 : tk Tryz.prog 82 = some (false, 1) := by kernel_rfl
@[simp] theorem tk83 : tk Tryz.prog 83 = some (false, 1) := by kernel_rfl
@[simp] theorem tk84 : tk Tryz.prog 84 = some (false, 1) := by kernel_rfl
@[simp] theorem tk85 : tk Tryz.prog 85 = some (false, 1) := by kernel_rfl
@[simp] theorem tk86 : tk Tryz.prog 86 = some (false, 1) := by kernel_rfl
@[simp] theorem tk87 : tk Tryz.prog 87 = some (false, 1) := by kernel_rfl
@[simp] theorem tk88 : tk Tryz.prog 88 = some (false, 1) := by kernel_rfl
@[simp] theorem tk89 : tk Tryz.prog 89 = some (false, 1) := by kernel_rfl
@[simp] theorem tk90 : tk Tryz.prog 90 = some (false, 1) := by kernel_rfl
@[simp] theorem tk91 : tk Tryz.prog 91 = some (false, 1) := by kernel_rfl
@[simp] theorem tk92 : tk Tryz.prog 92 = some (false, 1) := by kernel_rfl
@[simp] theorem tk93 : tk Tryz.prog 93 = some (false, 1) := by kernel_rfl
@[simp] theorem tstr93 : tstr Tryz.prog 93 = false := by kernel_rfl
@[simp] theorem tzero93 : tzero Tryz.prog 93 = some [.nil] := by kernel_rfl
@[simp] theorem tbyt93 : tbyt Tryz.prog 93 = false := by kernel_rfl
@[simp] theorem tel93 : tel Tryz.prog 93 = some (6, 48) := by kernel_rfl
@[simp] theorem tzeroE93 : tzeroE Tryz.prog 93 = some (6, 48, [.bool false, .int .i64 0, .bool false, .int .i64 0, .int .i64 0, .int .i64 0]) := by kernel_rfl
@[simp] theorem tk94 : tk Tryz.prog 94 = some (false, 1) := by kernel_rfl
@[simp] theorem tk95 : tk Tryz.prog 95 = some (false, 1) := by kernel_rfl
@[simp] theorem tstr95 : tstr Tryz.prog 95 = false := by kernel_rfl
@[simp] theorem tzero95 : tzero Tryz.prog 95 = some [.nil] := by kernel_rfl
@[simp] theorem tbyt95 : tbyt Tryz.prog 95 = false := by kernel_rfl
@[simp] theorem tel95 : tel Tryz.prog 95 = some (4, 32) := by kernel_rfl
@[simp] theorem tzeroE95 : tzeroE Tryz.prog 95 = some (4, 32, [.int .i64 0, .int .i64 0, .int .i64 0, .bool false]) := by kernel_rfl
@[simp] theorem tk96 : tk Tryz.prog 96 = some (true, 5) := by kernel_rfl
@[simp] theorem tzero96 : tzero Tryz.prog 96 = some [.int .i64 0, .int .i64 0, .nil, .int .i64 0, .nil] := by kernel_rfl
@[simp] theorem toff96_0 : toff Tryz.prog 96 0 = some 0 := by kernel_rfl
@[simp] theorem toff96_1 : toff Tryz.prog 96 1 = some 1 := by kernel_rfl
@[simp] theorem toff96_2 : toff Tryz.prog 96 2 = some 2 := by kernel_rfl
@[simp] theorem toff96_3 : toff Tryz.prog 96 3 = some 3 := by kernel_rfl
@[simp] theorem toff96_4 : toff Tryz.prog 96 4 = some 4 := by kernel_rfl
@[simp] theorem tplaces96 : tplaces Tryz.prog 96 = some ([(0, 1), (1, 1), (2, 1), (3, 1), (4, 1)], [.int .i64 0, .int .i64 0, .nil, .int .i64 0, .nil]) := by kernel_rfl
@[simp] theorem tk97 : tk Tryz.prog 97 = some (true, 5) := by kernel_rfl
@[simp] theorem tzero97 : tzero Tryz.prog 97 = some [.int .i64 0, .int .i64 0, .nil, .int .i64 0, .nil] := by kernel_rfl
@[simp] theorem toff97_0 : toff Tryz.prog 97 0 = some 0 := by kernel_rfl
@[simp] theorem toff97_1 : toff Tryz.prog 97 1 = some 1 := by kernel_rfl
@[simp] theorem toff97_2 : toff Tryz.prog 97 2 = some 2 := by kernel_rfl
@[simp] theorem toff97_3 : toff Tryz.prog 97 3 = some 3 := by kernel_rfl
@[simp] theorem toff97_4 : toff Tryz.prog 97 4 = some 4 := by kernel_rfl
@[simp] theorem tplaces97 : tplaces Tryz.prog 97 = some ([(0, 1), (1, 1), (2, 1), (3, 1), (4, 1)], [.int .i64 0, .int .i64 0, .nil, .int .i64 0, .nil]) := by kernel_rfl
@[simp] theorem tk98 : tk Tryz.prog 98 = some (false, 1) := by kernel_rfl
@[simp] theorem tk99 : tk Tryz.prog 99 = some (true, 6) := by kernel_rfl
@[simp] theorem tzero99 : tzero Tryz.prog 99 = some [.bool false, .int .i64 0, .bool false, .int .i64 0, .int .i64 0, .int .i64 0] := by kernel_rfl
@[simp] theorem toff99_0 : toff Tryz.prog 99 0 = some 0 := by kernel_rfl
@[simp] theorem toff99_1 : toff Tryz.prog 99 1 = some 1 := by kernel_rfl
@[simp] theorem toff99_2 : toff Tryz.prog 99 2 = some 2 := by kernel_rfl
@[simp] theorem toff99_3 : toff Tryz.prog 99 3 = some 3 := by kernel_rfl
@[simp] theorem tsh99 : tsh Tryz.prog 99 = some [1, 0, 1, 0, 0, 0] := by kernel_rfl
@[simp] theorem tplaces99 : tplaces Tryz.prog 99 = some ([(0, 1), (1, 1), (2, 1), (3, 3)], [.bool false, .int .i64 0, .bool false, .int .i64 0, .int .i64 0, .int .i64 0]) := by kernel_rfl
@[simp] theorem tk100 : tk Tryz.prog 100 = some (true, 6) := by kernel_rfl
@[simp] theorem tzero100 : tzero Tryz.prog 100 = some [.bool false, .int .i64 0, .bool false, .int .i64 0, .int .i64 0, .int .i64 0] := by kernel_rfl
@[simp] theorem toff100_0 : toff Tryz.prog 100 0 = some 0 := by kernel_rfl
@[simp] theorem toff100_1 : toff Tryz.prog 100 1 = some 1 := by kernel_rfl
@[simp] theorem toff100_2 : toff Tryz.prog 100 2 = some 2 := by kernel_rfl
@[simp] theorem toff100_3 : toff Tryz.prog 100 3 = some 3 := by kernel_rfl
@[simp] theorem tsh100 : tsh Tryz.prog 100 = some [1, 0, 1, 0, 0, 0] := by kernel_rfl
@[simp] theorem tplaces100 : tplaces Tryz.prog 100 = some ([(0, 1), (1, 1), (2, 1), (3, 3)], [.bool false, .int .i64 0, .bool false, .int .i64 0, .int .i64 0, .int .i64 0]) := by kernel_rfl
@[simp] theorem tk101 : tk Tryz.prog 101 = some (false, 1) := by kernel_rfl
@[simp] theorem tk102 : tk Tryz.prog 102 = some (false, 1) := by kernel_rfl
@[simp] theorem tk103 : tk Tryz.prog 103 = some (false, 1) := by kernel_rfl
@[simp] theorem tk104 : tk Tryz.prog 104 = some (false, 1) := by kernel_rfl
@[simp] theorem tk105 : tk Tryz.prog 105 = some (false, 1) := by kernel_rfl
@[simp] theorem tk106 : tk Tryz.prog 106 = some (false, 1) := by kernel_rfl
@[simp] theorem tk107 : tk Tryz.prog 107 = some (false, 1) := by kernel_rfl
@[simp] theorem tk108 : tk Tryz.prog 108 = some (false, 1) := by kernel_rfl
@[simp] theorem tk109 : tk Tryz.prog 109 = some (false, 1) := by kernel_rfl
@[simp] theorem tk110 : tk Tryz.prog 110 = some (false, 1) := by kernel_rfl
@[simp] theorem tk111 : tk Tryz.prog 111 = some (false, 1) := by kernel_rfl
@[simp] theorem tk112 : tk Tryz.prog 112 = some (false, 1) := by kernel_rfl
@[simp] theorem tk113 : tk Tryz.prog 113 = some (false, 1) := by kernel_rfl
@[simp] theorem tk114 : tk Tryz.prog 114 = some (false, 1) := by kernel_rfl
@[simp] theorem tk115 : tk Tryz.prog 115 = some (false, 1) := by kernel_rfl
@[simp] theorem tk116 : tk Tryz.prog 116 = some (false, 1) := by kernel_rfl
@[simp] theorem tk117 : tk Tryz.prog 117 = some (false, 1) := by kernel_rfl
@[simp] theorem tk118 : tk Tryz.prog 118 = some (false, 1) := by kernel_rfl
@[simp] theorem tk119 : tk Tryz.prog 119 = some (false, 1) := by kernel_rfl
@[simp] theorem tk120 : tk Tryz.prog 120 = some (false, 1) := by kernel_rfl
@[simp] theorem tk121 : tk Tryz.prog 121 = some (false, 1) := by kernel_rfl
@[simp] theorem tk122 : tk Tryz.prog 122 = some (false, 1) := by kernel_rfl
@[simp] theorem tk123 : tk Tryz.prog 123 = some (true, 4) := by kernel_rfl
@[simp] theorem tzero123 : tzero Tryz.prog 123 = some [.int .i64 0, .int .i64 0, .int .i64 0, .int .i64 0] := by kernel_rfl
@[simp] theorem toff123_0 : toff Tryz.prog 123 0 = some 0 := by kernel_rfl
@[simp] theorem toff123_1 : toff Tryz.prog 123 1 = some 1 := by kernel_rfl
@[simp] theorem toff123_2 : toff Tryz.prog 123 2 = some 2 := by kernel_rfl
@[simp] theorem toff123_3 : toff Tryz.prog 123 3 = some 3 := by kernel_rfl
@[simp] theorem tsh123 : tsh Tryz.prog 123 = some [0, 0, 0, 0] := by kernel_rfl
@[simp] theorem tplaces123 : tplaces Tryz.prog 123 = some ([(0, 1), (1, 1), (2, 1), (3, 1)], [.int .i64 0, .int .i64 0, .int .i64 0, .int .i64 0]) := by kernel_rfl
@[simp] theorem tk124 : tk Tryz.prog 124 = some (true, 4) := by kernel_rfl
@[simp] theorem tzero124 : tzero Tryz.prog 124 = some [.int .i64 0, .int .i64 0, .int .i64 0, .int .i64 0] := by kernel_rfl
@[simp] theorem toff124_0 : toff Tryz.prog 124 0 = some 0 := by kernel_rfl
@[simp] theorem toff124_1 : toff Tryz.prog 124 1 = some 1 := by kernel_rfl
@[simp] theorem toff124_2 : toff Tryz.prog 124 2 = some 2 := by kernel_rfl
@[simp] theorem toff124_3 : toff Tryz.prog 124 3 = some 3 := by kernel_rfl
@[simp] theorem tfld124_0 : tfld Tryz.prog 124 0 = some (0, false, 1) := by kernel_rfl
@[simp] theorem tfld124_1 : tfld Tryz.prog 124 1 = some (1, false, 1) := by kernel_rfl
@[simp] theorem tsh124 : tsh Tryz.prog 124 = some [0, 0, 0, 0] := by kernel_rfl
@[simp] theorem tplaces124 : tplaces Tryz.prog 124 = some ([(0, 1), (1, 1), (2, 1), (3, 1)], [.int .i64 0, .int .i64 0, .int .i64 0, .int .i64 0]) := by kernel_rfl
@[simp] theorem tk125 : tk Tryz.prog 125 = some (false, 1) := by kernel_rfl
@[simp] theorem tk126 : tk Tryz.prog 126 = some (false, 1) := by kernel_rfl
@[simp] theorem tk128 : tk Tryz.prog 128 = some (false, 1) := by kernel_rfl
@[simp] theorem tk129 : tk Tryz.prog 129 = some (false, 1) := by kernel_rfl
@[simp] theorem tk130 : tk Tryz.prog 130 = some (false, 1) := by kernel_rfl
@[simp] theorem tk132 : tk Tryz.prog 132 = some (false, 1) := by kernel_rfl
@[simp] theorem tk133 : tk Tryz.prog 133 = some (false, 1) := by kernel_rfl
@[simp] theorem tk135 : tk Tryz.prog 135 = some (false, 1) := by kernel_rfl
@[simp] theorem tk136 : tk Tryz.prog 136 = some (false, 1) := by kernel_rfl
@[simp] theorem tk137 : tk Tryz.prog 137 = some (false, 1) := by kernel_rfl
@[simp] theorem tk138 : tk Tryz.prog 138 = some (false, 1) := by kernel_rfl
@[simp] theorem tk139 : tk Tryz.prog 139 = some (false, 1) := by kernel_rfl
@[simp] theorem tstr139 : tstr Tryz.prog 139 = false := by kernel_rfl
@[simp] theorem tzero139 : tzero Tryz.prog 139 = some [.nil] := by kernel_rfl
@[simp] theorem tbyt139 : tbyt Tryz.prog 139 = false := by kernel_rfl
@[simp] theorem tel139 : tel Tryz.prog 139 = some (5, 40) := by kernel_rfl
@[simp] theorem tzeroE139 : tzeroE Tryz.prog 139 = some (5, 40, [.bool false, .int .i64 0, .int .i64 0, .int .i64 0, .int .i64 0]) := by kernel_rfl
@[simp] theorem tk140 : tk Tryz.prog 140 = some (true, 2) := by kernel_rfl
@[simp] theorem tzero140 : tzero Tryz.prog 140 = some [.nil, .int .i64 0] := by kernel_rfl
@[simp] theorem toff140_0 : toff Tryz.prog 140 0 = some 0 := by kernel_rfl
@[simp] theorem toff140_1 : toff Tryz.prog 140 1 = some 1 := by kernel_rfl
@[simp] theorem tplaces140 : tplaces Tryz.prog 140 = some ([(0, 1), (1, 1)], [.nil, .int .i64 0]) := by kernel_rfl
@[simp] theorem tk141 : tk Tryz.prog 141 = some (true, 2) := by kernel_rfl
@[simp] theorem tzero141 : tzero Tryz.prog 141 = some [.nil, .int .i64 0] := by kernel_rfl
@[simp] theorem toff141_0 : toff Tryz.prog 141 0 = some 0 := by kernel_rfl
@[simp] theorem toff141_1 : toff Tryz.prog 141 1 = some 1 := by kernel_rfl
@[simp] theorem tplaces141 : tplaces Tryz.prog 141 = some ([(0, 1), (1, 1)], [.nil, .int .i64 0]) := by kernel_rfl
@[simp] theorem tk142 : tk Tryz.prog 142 = some (false, 1) := by kernel_rfl
@[simp] theorem tk143 : tk Tryz.prog 143 = some (false, 1) := by kernel_rfl
@[simp] theorem tstr143 : tstr Tryz.prog 143 = false := by kernel_rfl
@[simp] theorem tzero143 : tzero Tryz.prog 143 = some [.nil] := by kernel_rfl
@[simp] theorem tbyt143 : tbyt Tryz.prog 143 = false := by kernel_rfl
@[simp] theorem tel143 : tel Tryz.prog 143 = some (4, 32) := by kernel_rfl
@[simp] theorem tzeroE143 : tzeroE Tryz.prog 143 = some (4, 32, [.int .i64 0, .int .i64 0, .int .i64 0, .int .i64 0]) := by kernel_rfl
@[simp] theorem tk144 : tk Tryz.prog 144 = some (true, 1) := by kernel_rfl
@[simp] theorem tzero144 : tzero Tryz.prog 144 = some [.nil] := by kernel_rfl
@[simp] theorem toff144_0 : toff Tryz.prog 144 0 = some 0 := by kernel_rfl
@[simp] theorem tplaces144 : tplaces Tryz.prog 144 = some ([(0, 1)], [.nil]) := by kernel_rfl
@[simp] theorem tk145 : tk Tryz.prog 145 = some (true, 1) := by kernel_rfl
@[simp] theorem tzero145 : tzero Tryz.prog 145 = some [.nil] := by kernel_rfl
@[simp] theorem toff145_0 : toff Tryz.prog 145 0 = some 0 := by kernel_rfl
@[simp] theorem tplaces145 : tplaces Tryz.prog 145 = some ([(0, 1)], [.nil]) := by kernel_rfl
@[simp] theorem tk146 : tk Tryz.prog 146 = some (false, 1) := by kernel_rfl
@[simp] theorem tk147 : tk Tryz.prog 147 = some (false, 1) := by kernel_rfl
@[simp] theorem tstr147 : tstr Tryz.prog 147 = false := by kernel_rfl
@[simp] theorem tzero147 : tzero Tryz.prog 147 = some [.nil] := by kernel_rfl
@[simp] theorem tbyt147 : tbyt Tryz.prog 147 = false := by kernel_rfl
@[simp] theorem tel147 : tel Tryz.prog 147 = some (4, 32) := by kernel_rfl
@[simp] theorem tzeroE147 : tzeroE Tryz.prog 147 = some (4, 32, [.int .i64 0, .int .i64 0, .int .i64 0, .bool false]) := by kernel_rfl
@[simp] theorem tk148 : tk Tryz.prog 148 = some (true, 5) := by kernel_rfl
@[simp] theorem tzero148 : tzero Tryz.prog 148 = some [.int .i64 0, .int .i64 0, .nil, .int .i64 0, .nil] := by kernel_rfl
@[simp] theorem toff148_0 : toff Tryz.prog 148 0 = some 0 := by kernel_rfl
@[simp] theorem toff148_1 : toff Tryz.prog 148 1 = some 1 := by kernel_rfl
@[simp] theorem toff148_2 : toff Tryz.prog 148 2 = some 2 := by kernel_rfl
@[simp] theorem toff148_3 : toff Tryz.prog 148 3 = some 3 := by kernel_rfl
@[simp] theorem toff148_4 : toff Tryz.prog 148 4 = some 4 := by kernel_rfl
@[simp] theorem tplaces148 : tplaces Tryz.prog 148 = some ([(0, 1), (1, 1), (2, 1), (3, 1), (4, 1)], [.int .i64 0, .int .i64 0, .nil, .int .i64 0, .nil]) := by kernel_rfl
@[simp] theorem tk149 : tk Tryz.prog 149 = some (true, 5) := by kernel_rfl
@[simp] theorem tzero149 : tzero Tryz.prog 149 = some [.int .i64 0, .int .i64 0, .nil, .int .i64 0, .nil] := by kernel_rfl
@[simp] theorem toff149_0 : toff Tryz.prog 149 0 = some 0 := by kernel_rfl
@[simp] theorem toff149_1 : toff Tryz.prog 149 1 = some 1 := by kernel_rfl
@[simp] theorem toff149_2 : toff Tryz.prog 149 2 = some 2 := by kernel_rfl
@[simp] theorem toff149_3 : toff Tryz.prog 149 3 = some 3 := by kernel_rfl
@[simp] theorem toff149_4 : toff Tryz.prog 149 4 = some 4 := by kernel_rfl
@[simp] theorem tplaces149 : tplaces Tryz.prog 149 = some ([(0, 1), (1, 1), (2, 1), (3, 1), (4, 1)], [.int .i64 0, .int .i64 0, .nil, .int .i64 0, .nil]) := by kernel_rfl
@[simp] theorem tk150 : tk Tryz.prog 150 = some (false, 1) := by kernel_rfl
@[simp] theorem tk151 : tk Tryz.prog 151 = some (false, 1) := by kernel_rfl
@[simp] theorem tstr151 : tstr Tryz.prog 151 = false := by kernel_rfl
@[simp] theorem tzero151 : tzero Tryz.prog 151 = some [.nil] := by kernel_rfl
@[simp] theorem tbyt151 : tbyt Tryz.prog 151 = false := by kernel_rfl
@[simp] theorem tel151 : tel Tryz.prog 151 = some (3, 24) := by kernel_rfl
@[simp] theorem tzeroE151 : tzeroE Tryz.prog 151 = some (3, 24, [.int .i64 0, .int .i64 0, .int .i64 0]) := by kernel_rfl
@[simp] theorem tk152 : tk Tryz.prog 152 = some (true, 5) := by kernel_rfl
@[simp] theorem tzero152 : tzero Tryz.prog 152 = some [.int .i64 0, .nil, .nil, .nil, .bool false] := by kernel_rfl
@[simp] theorem toff152_0 : toff Tryz.prog 152 0 = some 0 := by kernel_rfl
@[simp] theorem toff152_1 : toff Tryz.prog 152 1 = some 1 := by kernel_rfl
@[simp] theorem toff152_2 : toff Tryz.prog 152 2 = some 2 := by kernel_rfl
@[simp] theorem toff152_3 : toff Tryz.prog 152 3 = some 3 := by kernel_rfl
@[simp] theorem toff152_4 : toff Tryz.prog 152 4 = some 4 := by kernel_rfl
@[simp] theorem tplaces152 : tplaces Tryz.prog 152 = some ([(0, 1), (1, 1), (2, 1), (3, 1), (4, 1)], [.int .i64 0, .nil, .nil, .nil, .bool false]) := by kernel_rfl
@[simp] theorem tk153 : tk Tryz.prog 153 = some (true, 5) := by kernel_rfl
@[simp] theorem tzero153 : tzero Tryz.prog 153 = some [.int .i64 0, .nil, .nil, .nil, .bool false] := by kernel_rfl
@[simp] theorem toff153_0 : toff Tryz.prog 153 0 = some 0 := by kernel_rfl
@[simp] theorem toff153_1 : toff Tryz.prog 153 1 = some 1 := by kernel_rfl
@[simp] theorem toff153_2 : toff Tryz.prog 153 2 = some 2 := by kernel_rfl
@[simp] theorem toff153_3 : toff Tryz.prog 153 3 = some 3 := by kernel_rfl
@[simp] theorem toff153_4 : toff Tryz.prog 153 4 = some 4 := by kernel_rfl
@[simp] theorem tplaces153 : tplaces Tryz.prog 153 = some ([(0, 1), (1, 1), (2, 1), (3, 1), (4, 1)], [.int .i64 0, .nil, .nil, .nil, .bool false]) := by kernel_rfl
@[simp] theorem tk154 : tk Tryz.prog 154 = some (false, 1) := by kernel_rfl
@[simp] theorem tk155 : tk Tryz.prog 155 = some (true, 2) := by kernel_rfl
@[simp] theorem tzero155 : tzero Tryz.prog 155 = some [.int .i64 0, .nil] := by kernel_rfl
@[simp] theorem toff155_0 : toff Tryz.prog 155 0 = some 0 := by kernel_rfl
@[simp] theorem toff155_1 : toff Tryz.prog 155 1 = some 1 := by kernel_rfl
@[simp] theorem tplaces155 : tplaces Tryz.prog 155 = some ([(0, 1), (1, 1)], [.int .i64 0, .nil]) := by kernel_rfl
@[simp] theorem tk156 : tk Tryz.prog 156 = some (true, 2) := by kernel_rfl
@[simp] theorem tzero156 : tzero Tryz.prog 156 = some [.int .i64 0, .nil] := by kernel_rfl
@[simp] theorem toff156_0 : toff Tryz.prog 156 0 = some 0 := by kernel_rfl
@[simp] theorem toff156_1 : toff Tryz.prog 156 1 = some 1 := by kernel_rfl
@[simp] theorem tplaces156 : tplaces Tryz.prog 156 = some ([(0, 1), (1, 1)], [.int .i64 0, .nil]) := by kernel_rfl
@[simp] theorem tk157 : tk Tryz.prog 157 = some (false, 1) := by kernel_rfl
@[simp] theorem tk158 : tk Tryz.prog 158 = some (false, 1) := by kernel_rfl
@[simp] theorem tk159 : tk Tryz.prog 159 = some (false, 1) := by kernel_rfl
@[simp] theorem tk160 : tk Tryz.prog 160 = some (false, 1) := by kernel_rfl
@[simp] theorem tk161 : tk Tryz.prog 161 = some (false, 1) := by kernel_rfl
@[simp] theorem tk162 : tk Tryz.prog 162 = some (true, 5) := by kernel_rfl
@[simp] theorem tzero162 : tzero Tryz.prog 162 = some [.bool false, .int .i64 0, .int .i64 0, .int .i64 0, .int .i64 0] := by kernel_rfl
@[simp] theorem toff162_0 : toff Tryz.prog 162 0 = some 0 := by kernel_rfl
@[simp] theorem toff162_1 : toff Tryz.prog 162 1 = some 1 := by kernel_rfl
@[simp] theorem toff162_2 : toff Tryz.prog 162 2 = some 2 := by kernel_rfl
@[simp] theorem toff162_3 : toff Tryz.prog 162 3 = some 3 := by kernel_rfl
@[simp] theorem toff162_4 : toff Tryz.prog 162 4 = some 4 := by kernel_rfl
@[simp] theorem tsh162 : tsh Tryz.prog 162 = some [1, 0, 0, 0, 0] := by kernel_rfl
@[simp] theorem tplaces162 : tplaces Tryz.prog 162 = some ([(0, 1), (1, 1), (2, 1), (3, 1), (4, 1)], [.bool false, .int .i64 0, .int .i64 0, .int .i64 0, .int .i64 0]) := by kernel_rfl
@[simp] theorem tk163 : tk Tryz.prog 163 = some (true, 5) := by kernel_rfl
@[simp] theorem tzero163 : tzero Tryz.prog 163 = some [.bool false, .int .i64 0, .int .i64 0, .int .i64 0, .int .i64 0] := by kernel_rfl
@[simp] theorem toff163_0 : toff Tryz.prog 163 0 = some 0 := by kernel_rfl
@[simp] theorem toff163_1 : toff Tryz.prog 163 1 = some 1 := by kernel_rfl
@[simp] theorem toff163_2 : toff Tryz.prog 163 2 = some 2 := by kernel_rfl
@[simp] theorem toff163_3 : toff Tryz.prog 163 3 = some 3 := by kernel_rfl
@[simp] theorem toff163_4 : toff Tryz.prog 163 4 = some 4 := by kernel_rfl
@[simp] theorem tsh163 : tsh Tryz.prog 163 = some [1, 0, 0, 0, 0] := by kernel_rfl
@[simp] theorem tplaces163 : tplaces Tryz.prog 163 = some ([(0, 1), (1, 1), (2, 1), (3, 1), (4, 1)], [.bool false, .int .i64 0, .int .i64 0, .int .i64 0, .int .i64 0]) := by kernel_rfl
@[simp] theorem tk164 : tk Tryz.prog 164 = some (false, 1) := by kernel_rfl
@[simp] theorem tstr164 : tstr Tryz.prog 164 = false := by kernel_rfl
@[simp] theorem tzero164 : tzero Tryz.prog 164 = some [.nil] := by kernel_rfl
@[simp] theorem tbyt164 : tbyt Tryz.prog 164 = false := by kernel_rfl
@[simp] theorem tel164 : tel Tryz.prog 164 = some (5, 40) := by kernel_rfl
@[simp] theorem tzeroE164 : tzeroE Tryz.prog 164 = some (5, 40, [.bool false, .int .i64 0, .int .i64 0, .int .i64 0, .int .i64 0]) := by kernel_rfl
@[simp] theorem tk165 : tk Tryz.prog 165 = some (true, 2) := by kernel_rfl
@[simp] theorem tzero165 : tzero Tryz.prog 165 = some [.nil, .int .i64 0] := by kernel_rfl
@[simp] theorem toff165_0 : toff Tryz.prog 165 0 = some 0 := by kernel_rfl
@[simp] theorem toff165_1 : toff Tryz.prog 165 1 = some 1 := by kernel_rfl
@[simp] theorem tplaces165 : tplaces Tryz.prog 165 = some ([(0, 1), (1, 1)], [.nil, .int .i64 0]) := by kernel_rfl
@[simp] theorem tk166 : tk Tryz.prog 166 = some (true, 2) := by kernel_rfl
@[simp] theorem tzero166 : tzero Tryz.prog 166 = some [.nil, .int .i64 0] := by kernel_rfl
@[simp] theorem toff166_0 : toff Tryz.prog 166 0 = some 0 := by kernel_rfl
@[simp] theorem toff166_1 : toff Tryz.prog 166 1 = some 1 := by kernel_rfl
@[simp] theorem tplaces166 : tplaces Tryz.prog 166 = some ([(0, 1), (1, 1)], [.nil, .int .i64 0]) := by kernel_rfl
@[simp] theorem tk167 : tk Tryz.prog 167 = some (false, 1) := by kernel_rfl
@[simp] theorem tk168 : tk Tryz.prog 168 = some (true, 4) := by kernel_rfl
@[simp] theorem tzero168 : tzero Tryz.prog 168 = some [.int .i64 0, .int .i64 0, .int .i64 0, .bool false] := by kernel_rfl
@[simp] theorem toff168_0 : toff Tryz.prog 168 0 = some 0 := by kernel_rfl
@[simp] theorem toff168_1 : toff Tryz.prog 168 1 = some 1 := by kernel_rfl
@[simp] theorem toff168_2 : toff Tryz.prog 168 2 = some 2 := by kernel_rfl
@[simp] theorem toff168_3 : toff Tryz.prog 168 3 = some 3 := by kernel_rfl
@[simp] theorem tsh168 : tsh Tryz.prog 168 = some [0, 0, 0, 1] := by kernel_rfl
@[simp] theorem tplaces168 : tplaces Tryz.prog 168 = some ([(0, 1), (1, 1), (2, 1), (3, 1)], [.int .i64 0, .int .i64 0, .int .i64 0, .bool false]) := by kernel_rfl
@[simp] theorem tk169 : tk Tryz.prog 169 = some (true, 4) := by kernel_rfl
@[simp] theorem tzero169 : tzero Tryz.prog 169 = some [.int .i64 0, .int .i64 0, .int .i64 0, .bool false] := by kernel_rfl
@[simp] theorem toff169_0 : toff Tryz.prog 169 0 = some 0 := by kernel_rfl
@[simp] theorem toff169_1 : toff Tryz.prog 169 1 = some 1 := by kernel_rfl
@[simp] theorem toff169_2 : toff Tryz.prog 169 2 = some 2 := by kernel_rfl
@[simp] theorem toff169_3 : toff Tryz.prog 169 3 = some 3 := by kernel_rfl
@[simp] theorem tsh169 : tsh Tryz.prog 169 = some [0, 0, 0, 1] := by kernel_rfl
@[simp] theorem tplaces169 : tplaces Tryz.prog 169 = some ([(0, 1), (1, 1), (2, 1), (3, 1)], [.int .i64 0, .int .i64 0, .int .i64 0, .bool false]) := by kernel_rfl
@[simp] theorem tk170 : tk Tryz.prog 170 = some (false, 1) := by kernel_rfl
@[simp] theorem tk171 : tk Tryz.prog 171 = some (false, 1) := by kernel_rfl
@[simp] theorem tk172 : tk Tryz.prog 172 = some (false, 1) := by kernel_rfl
@[simp] theorem tk173 : tk Tryz.prog 173 = some (false, 1) := by kernel_rfl
@[simp] theorem tstr173 : tstr Tryz.prog 173 = false := by kernel_rfl
@[simp] theorem tzero173 : tzero Tryz.prog 173 = some [.nil] := by kernel_rfl
@[simp] theorem tbyt173 : tbyt Tryz.prog 173 = false := by kernel_rfl
@[simp] theorem tel173 : tel Tryz.prog 173 = some (3, 24) := by kernel_rfl
@[simp] theorem tzeroE173 : tzeroE Tryz.prog 173 = some (3, 24, [.int .i64 0, .int .i64 0, .int .i64 0]) := by kernel_rfl
@[simp] theorem tk174 : tk Tryz.prog 174 = some (true, 5) := by kernel_rfl
@[simp] theorem tzero174 : tzero Tryz.prog 174 = some [.int .i64 0, .nil, .nil, .nil, .bool false] := by kernel_rfl
@[simp] theorem toff174_0 : toff Tryz.prog 174 0 = some 0 := by kernel_rfl
@[simp] theorem toff174_1 : toff Tryz.prog 174 1 = some 1 := by kernel_rfl
@[simp] theorem toff174_2 : toff Tryz.prog 174 2 = some 2 := by kernel_rfl
@[simp] theorem toff174_3 : toff Tryz.prog 174 3 = some 3 := by kernel_rfl
@[simp] theorem toff174_4 : toff Tryz.prog 174 4 = some 4 := by kernel_rfl
@[simp] theorem tplaces174 : tplaces Tryz.prog 174 = some ([(0, 1), (1, 1), (2, 1), (3, 1), (4, 1)], [.int .i64 0, .nil, .nil, .nil, .bool false]) := by kernel_rfl
@[simp] theorem tk175 : tk Tryz.prog 175 = some (true, 5) := by kernel_rfl
@[simp] theorem tzero175 : tzero Tryz.prog 175 = some [.int .i64 0, .nil, .nil, .nil, .bool false] := by kernel_rfl
@[simp] theorem toff175_0 : toff Tryz.prog 175 0 = some 0 := by kernel_rfl
@[simp] theorem toff175_1 : toff Tryz.prog 175 1 = some 1 := by kernel_rfl
@[simp] theorem toff175_2 : toff Tryz.prog 175 2 = some 2 := by kernel_rfl
@[simp] theorem toff175_3 : toff Tryz.prog 175 3 = some 3 := by kernel_rfl
@[simp] theorem toff175_4 : toff Tryz.prog 175 4 = some 4 := by kernel_rfl
@[simp] theorem tplaces175 : tplaces Tryz.prog 175 = some ([(0, 1), (1, 1), (2, 1), (3, 1), (4, 1)], [.int .i64 0, .nil, .nil, .nil, .bool false]) := by kernel_rfl
@[simp] theorem tk176 : tk Tryz.prog 176 = some (false, 1) := by kernel_rfl
@[simp] theorem tk177 : tk Tryz.prog 177 = some (true, 2) := by kernel_rfl
@[simp] theorem tzero177 : tzero Tryz.prog 177 = some [.int .i64 0, .nil] := by kernel_rfl
@[simp] theorem toff177_0 : toff Tryz.prog 177 0 = some 0 := by kernel_rfl
@[simp] theorem toff177_1 : toff Tryz.prog 177 1 = some 1 := by kernel_rfl
@[simp] theorem tplaces177 : tplaces Tryz.prog 177 = some ([(0, 1), (1, 1)], [.int .i64 0, .nil]) := by kernel_rfl
@[simp] theorem tk178 : tk Tryz.prog 178 = some (false, 1) := by kernel_rfl
@[simp] theorem tk179 : tk Tryz.prog 179 = some (false, 1) := by kernel_rfl
@[simp] theorem tk180 : tk Tryz.prog 180 = some (false, 1) := by kernel_rfl
@[simp] theorem tstr180 : tstr Tryz.prog 180 = false := by kernel_rfl
@[simp] theorem tzero180 : tzero Tryz.prog 180 = some [.nil] := by kernel_rfl
@[simp] theorem tbyt180 : tbyt Tryz.prog 180 = false := by kernel_rfl
@[simp] theorem tel180 : tel Tryz.prog 180 = some (4, 32) := by kernel_rfl
@[simp] theorem tzeroE180 : tzeroE Tryz.prog 180 = some (4, 32, [.int .i64 0, .int .i64 0, .int .i64 0, .int .i64 0]) := by kernel_rfl
@[simp] theorem tk181 : tk Tryz.prog 181 = some (true, 1) := by kernel_rfl
@[simp] theorem tzero181 : tzero Tryz.prog 181 = some [.nil] := by kernel_rfl
@[simp] theorem toff181_0 : toff Tryz.prog 181 0 = some 0 := by kernel_rfl
@[simp] theorem tplaces181 : tplaces Tryz.prog 181 = some ([(0, 1)], [.nil]) := by kernel_rfl
@[simp] theorem tk182 : tk Tryz.prog 182 = some (true, 1) := by kernel_rfl
@[simp] theorem tzero182 : tzero Tryz.prog 182 = some [.nil] := by kernel_rfl
@[simp] theorem toff182_0 : toff Tryz.prog 182 0 = some 0 := by kernel_rfl
@[simp] theorem tplaces182 : tplaces Tryz.prog 182 = some ([(0, 1)], [.nil]) := by kernel_rfl
@[simp] theorem tk183 : tk Tryz.prog 183 = some (false, 1) := by kernel_rfl
@[simp] theorem tk184 : tk Tryz.prog 184 = some (false, 1) := by kernel_rfl
@[simp] theorem tk185 : tk Tryz.prog 185 = some (false, 1) := by kernel_rfl
@[simp] theorem tk186 : tk Tryz.prog 186 = some (false, 1) := by kernel_rfl
@[simp] theorem tk187 : tk Tryz.prog 187 = some (false, 1) := by kernel_rfl
@[simp] theorem tk188 : tk Tryz.prog 188 = some (false, 1) := by kernel_rfl
@[simp] theorem tk189 : tk Tryz.prog 189 = some (false, 1) := by kernel_rfl
@[simp] theorem tk190 : tk Tryz.prog 190 = some (false, 1) := by kernel_rfl
@[simp] theorem tk191 : tk Tryz.prog 191 = some (false, 1) := by kernel_rfl
@[simp] theorem tk192 : tk Tryz.prog 192 = some (false, 1) := by kernel_rfl
@[simp] theorem tk193 : tk Tryz.prog 193 = some (false, 1) := by kernel_rfl
@[simp] theorem tk194 : tk Tryz.prog 194 = some (false, 1) := by kernel_rfl
@[simp] theorem tk195 : tk Tryz.prog 195 = some (false, 1) := by kernel_rfl
@[simp] theorem tk196 : tk Tryz.prog 196 = some (false, 1) := by kernel_rfl
@[simp] theorem tk197 : tk Tryz.prog 197 = some (false, 1) := by kernel_rfl
@[simp] theorem tk198 : tk Tryz.prog 198 = some (false, 1) := by kernel_rfl
@[simp] theorem tk199 : tk Tryz.prog 199 = some (false, 1) := by kernel_rfl
@[simp] theorem tk200 : tk Tryz.prog 200 = some (false, 1) := by kernel_rfl
@[simp] theorem tk201 : tk Tryz.prog 201 = some (false, 1) := by kernel_rfl
@[simp] theorem tk202 : tk Tryz.prog 202 = some (false, 1) := by kernel_rfl
@[simp] theorem tk203 : tk Tryz.prog 203 = some (false, 1) := by kernel_rfl
@[simp] theorem tk204 : tk Tryz.prog 204 = some (false, 1) := by kernel_rfl
@[simp] theorem tk205 : tk Tryz.prog 205 = some (false, 1) := by kernel_rfl
@[simp] theorem tk206 : tk Tryz.prog 206 = some (false, 1) := by kernel_rfl
@[simp] theorem tk207 : tk Tryz.prog 207 = some (false, 1) := by kernel_rfl
@[simp] theorem tk208 : tk Tryz.prog 208 = some (false, 1) := by kernel_rfl
@[simp] theorem tk209 : tk Tryz.prog 209 = some (false, 1) := by kernel_rfl
@[simp] theorem tk210 : tk Tryz.prog 210 = some (false, 1) := by kernel_rfl
@[simp] theorem tk211 : tk Tryz.prog 211 = some (false, 1) := by kernel_rfl
@[simp] theorem tk212 : tk Tryz.prog 212 = some (false, 1) := by kernel_rfl
@[simp] theorem tk213 : tk Tryz.prog 213 = some (false, 1) := by kernel_rfl
@[simp] theorem tk214 : tk Tryz.prog 214 = some (false, 1) := by kernel_rfl
@[simp] theorem tk215 : tk Tryz.prog 215 = some (false, 1) := by kernel_rfl
@[simp] theorem tk216 : tk Tryz.prog 216 = some (false, 1) := by kernel_rfl
@[simp] theorem tk217 : tk Tryz.prog 217 = some (false, 1) := by kernel_rfl
@[simp] theorem tk218 : tk Tryz.prog 218 = some (false, 1) := by kernel_rfl
@[simp] theorem tk219 : tk Tryz.prog 219 = some (false, 1) := by kernel_rfl
@[simp] theorem tk220 : tk Tryz.prog 220 = some (false, 1) := by kernel_rfl
@[simp] theorem tk221 : tk Tryz.prog 221 = some (false, 1) := by kernel_rfl
@[simp] theorem tk222 : tk Tryz.prog 222 = some (false, 1) := by kernel_rfl
@[simp] theorem tk223 : tk Tryz.prog 223 = some (false, 1) := by kernel_rfl
@[simp] theorem tk224 : tk Tryz.prog 224 = some (false, 1) := by kernel_rfl
@[simp] theorem tk225 : tk Tryz.prog 225 = some (false, 1) := by kernel_rfl
@[simp] theorem tk226 : tk Tryz.prog 226 = some (false, 1) := by kernel_rfl
@[simp] theorem tk227 : tk Tryz.prog 227 = some (false, 1) := by kernel_rfl
@[simp] theorem tk228 : tk Tryz.prog 228 = some (false, 1) := by kernel_rfl
@[simp] theorem tk229 : tk Tryz.prog 229 = some (false, 1) := by kernel_rfl
@[simp] theorem tk230 : tk Tryz.prog 230 = some (false, 1) := by kernel_rfl
@[simp] theorem tk231 : tk Tryz.prog 231 = some (false, 1) := by kernel_rfl
@[simp] theorem tk232 : tk Tryz.prog 232 = some (false, 1) := by kernel_rfl
@[simp] theorem tk233 : tk Tryz.prog 233 = some (false, 1) := by kernel_rfl
@[simp] theorem tk234 : tk Tryz.prog 234 = some (false, 1) := by kernel_rfl
@[simp] theorem tk235 : tk Tryz.prog 235 = some (false, 1) := by kernel_rfl
@[simp] theorem tk236 : tk Tryz.prog 236 = some (false, 1) := by kernel_rfl
@[simp] theorem tk237 : tk Tryz.prog 237 = some (false, 1) := by kernel_rfl
@[simp] theorem tk238 : tk Tryz.prog 238 = some (false, 1) := by kernel_rfl
@[simp] theorem tk239 : tk Tryz.prog 239 = some (false, 1) := by kernel_rfl
@[simp] theorem tk240 : tk Tryz.prog 240 = some (false, 1) := by kernel_rfl
@[simp] theorem tk241 : tk Tryz.prog 241 = some (false, 1) := by kernel_rfl
@[simp] theorem tk242 : tk Tryz.prog 242 = some (false, 1) := by kernel_rfl
@[simp] theorem tk243 : tk Tryz.prog 243 = some (false, 1) := by kernel_rfl
@[simp] theorem tk244 : tk Tryz.prog 244 = some (false, 1) := by kernel_rfl
@[simp] theorem tk245 : tk Tryz.prog 245 = some (false, 1) := by kernel_rfl
@[simp] theorem tk246 : tk Tryz.prog 246 = some (false, 1) := by kernel_rfl
@[simp] theorem tk248 : tk Tryz.prog 248 = some (false, 1) := by kernel_rfl
@[simp] theorem tk250 : tk Tryz.prog 250 = some (false, 1) := by kernel_rfl
@[simp] theorem tk252 : tk Tryz.prog 252 = some (false, 1) := by kernel_rfl
@[simp] theorem tk254 : tk Tryz.prog 254 = some (false, 1) := by kernel_rfl
@[simp] theorem tk256 : tk Tryz.prog 256 = some (false, 1) := by kernel_rfl
@[simp] theorem tk257 : tk Tryz.prog 257 = some (false, 1) := by kernel_rfl
@[simp] theorem tk258 : tk Tryz.prog 258 = some (false, 1) := by kernel_rfl
@[simp] theorem tk259 : tk Tryz.prog 259 = some (false, 1) := by kernel_rfl
@[simp] theorem tk260 : tk Tryz.prog 260 = some (false, 1) := by kernel_rfl
@[simp] theorem tk261 : tk Tryz.prog 261 = some (true, 5) := by kernel_rfl
@[simp] theorem tzero261 : tzero Tryz.prog 261 = some [.bool false, .int .i64 0, .int .i64 0, .int .i64 0, .int .i64 0] := by kernel_rfl
@[simp] theorem toff261_0 : toff Tryz.prog 261 0 = some 0 := by kernel_rfl
@[simp] theorem toff261_1 : toff Tryz.prog 261 1 = some 1 := by kernel_rfl
@[simp] theorem toff261_2 : toff Tryz.prog 261 2 = some 2 := by kernel_rfl
@[simp] theorem toff261_3 : toff Tryz.prog 261 3 = some 3 := by kernel_rfl
@[simp] theorem toff261_4 : toff Tryz.prog 261 4 = some 4 := by kernel_rfl
@[simp] theorem tsh261 : tsh Tryz.prog 261 = some [1, 0, 0, 0, 0] := by kernel_rfl
@[simp] theorem tplaces261 : tplaces Tryz.prog 261 = some ([(0, 1), (1, 1), (2, 1), (3, 1), (4, 1)], [.bool false, .int .i64 0, .int .i64 0, .int .i64 0, .int .i64 0]) := by kernel_rfl
@[simp] theorem tk262 : tk Tryz.prog 262 = some (false, 1) := by kernel_rfl
@[simp] theorem tk263 : tk Tryz.prog 263 = some (true, 4) := by kernel_rfl
@[simp] theorem tzero263 : tzero Tryz.prog 263 = some [.int .i64 0, .int .i64 0, .int .i64 0, .int .i64 0] := by kernel_rfl
@[simp] theorem toff263_0 : toff Tryz.prog 263 0 = some 0 := by kernel_rfl
@[simp] theorem toff263_1 : toff Tryz.prog 263 1 = some 1 := by kernel_rfl
@[simp] theorem toff263_2 : toff Tryz.prog 263 2 = some 2 := by kernel_rfl
@[simp] theorem toff263_3 : toff Tryz.prog 263 3 = some 3 := by kernel_rfl
@[simp] theorem tsh263 : tsh Tryz.prog 263 = some [0, 0, 0, 0] := by kernel_rfl
@[simp] theorem tplaces263 : tplaces Tryz.prog 263 = some ([(0, 1), (1, 1), (2, 1), (3, 1)], [.int .i64 0, .int .i64 0, .int .i64 0, .int .i64 0]) := by kernel_rfl
@[simp] theorem tk264 : tk Tryz.prog 264 = some (false, 1) := by kernel_rfl
@[simp] theorem tk265 : tk Tryz.prog 265 = some (true, 4) := by kernel_rfl
@[simp] theorem tzero265 : tzero Tryz.prog 265 = some [.int .i64 0, .int .i64 0, .int .i64 0, .bool false] := by kernel_rfl
@[simp] theorem toff265_0 : toff Tryz.prog 265 0 = some 0 := by kernel_rfl
@[simp] theorem toff265_1 : toff Tryz.prog 265 1 = some 1 := by kernel_rfl
@[simp] theorem toff265_2 : toff Tryz.prog 265 2 = some 2 := by kernel_rfl
@[simp] theorem toff265_3 : toff Tryz.prog 265 3 = some 3 := by kernel_rfl
@[simp] theorem tsh265 : tsh Tryz.prog 265 = some [0, 0, 0, 1] := by kernel_rfl
@[simp] theorem tplaces265 : tplaces Tryz.prog 265 = some ([(0, 1), (1, 1), (2, 1), (3, 1)], [.int .i64 0, .int .i64 0, .int .i64 0, .bool false]) := by kernel_rfl
@[simp] theorem tk266 : tk Tryz.prog 266 = some (false, 1) := by kernel_rfl
@[simp] theorem tk267 : tk Tryz.prog 267 = some (false, 1) := by kernel_rfl
@[simp] theorem tk268 : tk Tryz.prog 268 = some (false, 1) := by kernel_rfl
@[simp] theorem tk269 : tk Tryz.prog 269 = some (false, 1) := by kernel_rfl
@[simp] theorem tk270 : tk Tryz.prog 270 = some (false, 1) := by kernel_rfl
@[simp] theorem tk271 : tk Tryz.prog 271 = some (false, 1) := by kernel_rfl
@[simp] theorem tk272 : tk Tryz.prog 272 = some (false, 1) := by kernel_rfl
@[simp] theorem tk273 : tk Tryz.prog 273 = some (false, 1) := by kernel_rfl
@[simp] theorem tk274 : tk Tryz.prog 274 = some (false, 1) := by kernel_rfl
@[simp] theorem tk275 : tk Tryz.prog 275 = some (false, 1) := by kernel_rfl
@[simp] theorem tk276 : tk Tryz.prog 276 = some (false, 1) := by kernel_rfl
@[simp] theorem tk282 : tk Tryz.prog 282 = some (false, 1) := by kernel_rfl
@[simp] theorem tk283 : tk Tryz.prog 283 = some (false, 1) := by kernel_rfl
@[simp] theorem tint283 : tint Tryz.prog 283 = some .u32 := by kernel_rfl
@[simp] theorem tstr283 : tstr Tryz.prog 283 = false := by kernel_rfl
@[simp] theorem tzero283 : tzero Tryz.prog 283 = some [.int .u32 0] := by kernel_rfl
@[simp] theorem tbyt283 : tbyt Tryz.prog 283 = false := by kernel_rfl
@[simp] theorem tk286 : tk Tryz.prog 286 = some (false, 1) := by kernel_rfl
@[simp] theorem tk287 : tk Tryz.prog 287 = some (false, 1) := by kernel_rfl
@[simp] theorem tk292 : tk Tryz.prog 292 = some (false, 1) := by kernel_rfl
end HT
set_option linter.unusedSimpArgs false
set_option linter.unusedVariables false
namespace HT
open Go Go.Proofs HK
attribute [simp] avk
theorem mixed : Tryz.prog.follows .mixedOrders = true := by kernel_rfl
def szL {α : Type} (f : α → Nat) (l : List α) : Nat := l.length + (l.map f).sum
theorem sum_mem {α : Type} {f : α → Nat} : ∀ {l : List α} {x : α}, x ∈ l → f x ≤ (l.map f).sum
  | y :: l, x, h => by
    rcases List.mem_cons.1 h with rfl | h
    · simp
    · have := sum_mem (f := f) h; simp; omega
theorem szL_mem {α : Type} {f : α → Nat} {l : List α} {x : α} (h : x ∈ l) : f x ≤ szL f l := by
  have := sum_mem (f := f) h; unfold szL; omega
theorem szL_take {α : Type} {f : α → Nat} {l : List α} {k : Nat} {x : α} (h : l[k]? = some x) : ((l.take (k + 1)).map f).sum = ((l.take k).map f).sum + f x := by
  rw [List.take_add_one, h]; simp
theorem sum_take {α : Type} (f : α → Nat) (l : List α) (k : Nat) : ((l.take k).map f).sum ≤ (l.map f).sum := by
  conv => rhs; rw [← List.take_append_drop k l, List.map_append, List.sum_append]
  omega
theorem getS {β : Type} (z : β) (l : List β) (k : Nat) (hk : k < l.length) : (l.take k ++ List.replicate (l.length - k) z)[k]? = some z := by
  rw [List.getElem?_append_right (by simp; omega), List.getElem?_replicate, if_pos (by simp; omega)]
theorem wrapI (n : Int) (h : -2 ^ 63 ≤ n) (h' : n < 2 ^ 63) : IntKind.i64.wrap n = n := by
  have e : IntKind.i64.wrap n = if n % 2 ^ 64 ≥ 2 ^ 63 then n % 2 ^ 64 - 2 ^ 64 else n % 2 ^ 64 := by
    simp [IntKind.wrap, IntKind.bits, IntKind.signed]
  rw [e]; split <;> omega
theorem wrap1 (k : Nat) (h : k + 1 < 2 ^ 63) : IntKind.i64.wrap ((k : Int) + 1) = (k : Int) + 1 := wrapI _ (by omega) (by omega)
theorem fillS {β : Type} (z : β) (l : List β) (k : Nat) (x : β) (hk : l[k]? = some x) : (l.take k ++ List.replicate (l.length - k) z).set k x = l.take (k + 1) ++ List.replicate (l.length - (k + 1)) z := by
  have hlt := (List.getElem?_eq_some_iff.1 hk).1
  rw [List.set_append_right _ _ (by simp; omega)]; have e : l.length - k = (l.length - (k + 1)) + 1 := by omega
  rw [e, List.replicate_succ]; have e2 : k - (l.take k).length = 0 := by simp; omega
  rw [e2, List.set_cons_zero, List.take_add_one, hk]; simp
def szR (n : Nat) (m : Int) : Int := if (n : Int) ≤ m then m - n else -1
theorem szR_cases (n : Nat) (m : Int) : ((n : Int) ≤ m ∧ szR n m = m - n) ∨ (m < n ∧ szR n m = -1) := by
  unfold szR; split <;> omega
def IntS (l : List Int) : List (List AV) := l.map fun b => [.int .i64 b]
@[simp] theorem IntS_length (l : List Int) : (IntS l).length = l.length := by simp [IntS]
@[simp] theorem IntS_get (l : List Int) (k : Nat) : (IntS l)[k]? = (l[k]?).map (fun b => [AV.int .i64 b]) := by simp [IntS]
@[simp] theorem IntS_getE (l : List Int) (k : Nat) (h : k < (IntS l).length) : (IntS l)[k] = (fun b => [AV.int .i64 b]) (l[k]'(by simpa using h)) := by simp [IntS]
@[simp] theorem IntS_take (l : List Int) : List.take l.length (IntS l) = IntS l := by
  have := List.take_length (l := IntS l)
  rwa [IntS_length] at this
@[simp] theorem IntS_nil : IntS [] = [] := rfl
theorem IntS_app (a b : List Int) : IntS (a ++ b) = IntS a ++ IntS b := by simp [IntS]
theorem IntS_takeN (l : List Int) (k : Nat) : (IntS l).take k = IntS (l.take k) := by simp [IntS, List.map_take]
theorem IntS_len {l : List Int} {e : List AV} (h : e ∈ IntS l) : e.length = 1 := by
  obtain ⟨d, _, rfl⟩ := List.mem_map.1 h; rfl
@[simp] theorem IntS_ren (l : List Int) (ids : List Nat) (d : Nat) : (IntS l).map (List.map (renN ids (d + 1))) = IntS l := by
  simp [IntS, Function.comp_def]
@[simp] theorem IntS_low (n : Nat) (l : List Int) : lowEs n (IntS l) = true := by
  simp [lowEs, IntS]
@[simp] theorem IntS_lowT (n : Nat) (l : List Int) (k : Nat) : lowEs n ((IntS l).take k) = true := lowEs_take (IntS_low n l) k
@[simp] theorem IntS_str (d : Nat) (l : List Int) : ((IntS l).all fun e => e.all (strN (d + 1))) = true := by
  simp [IntS, -strN, strS_int, strS_bool]
theorem IntS_okI (l : List Int) : okI (.own 1 (IntS l)) = true := by
  simp [okI]
@[simp] theorem IntS_view (l : List Int) (h : Heap) (d : Nat) : (IntS l).map (List.map (viewN h (d + 1))) = IntS l := by
  simp [IntS, IntS, Function.comp_def]
structure Waiter where
  g : Int
  cas : Int
  v : Int
deriving DecidableEq
@[simp] def Waiter.cl (d : Waiter) : List AV := [.int .i64 d.g, .int .i64 d.cas, .int .i64 d.v]
def WaiterS (l : List Waiter) : List (List AV) := l.map Waiter.cl
@[simp] theorem WaiterS_length (l : List Waiter) : (WaiterS l).length = l.length := by simp [WaiterS]
@[simp] theorem WaiterS_get (l : List Waiter) (k : Nat) : (WaiterS l)[k]? = (l[k]?).map Waiter.cl := by simp [WaiterS]
@[simp] theorem WaiterS_getE (l : List Waiter) (k : Nat) (h : k < (WaiterS l).length) : (WaiterS l)[k] = Waiter.cl (l[k]'(by simpa using h)) := by simp [WaiterS]
@[simp] theorem WaiterS_take (l : List Waiter) : List.take l.length (WaiterS l) = WaiterS l := by
  have := List.take_length (l := WaiterS l)
  rwa [WaiterS_length] at this
@[simp] theorem WaiterS_nil : WaiterS [] = [] := rfl
theorem WaiterS_app (a b : List Waiter) : WaiterS (a ++ b) = WaiterS a ++ WaiterS b := by simp [WaiterS]
theorem WaiterS_takeN (l : List Waiter) (k : Nat) : (WaiterS l).take k = WaiterS (l.take k) := by simp [WaiterS, List.map_take]
theorem WaiterS_len {l : List Waiter} {e : List AV} (h : e ∈ WaiterS l) : e.length = 3 := by
  obtain ⟨d, _, rfl⟩ := List.mem_map.1 h; rfl
@[simp] theorem WaiterS_ren (l : List Waiter) (ids : List Nat) (d : Nat) : (WaiterS l).map (List.map (renN ids (d + 1))) = WaiterS l := by
  simp [WaiterS, Function.comp_def]
@[simp] theorem WaiterS_low (n : Nat) (l : List Waiter) : lowEs n (WaiterS l) = true := by
  simp [lowEs, WaiterS]
@[simp] theorem WaiterS_lowT (n : Nat) (l : List Waiter) (k : Nat) : lowEs n ((WaiterS l).take k) = true := lowEs_take (WaiterS_low n l) k
@[simp] theorem WaiterS_str (d : Nat) (l : List Waiter) : ((WaiterS l).all fun e => e.all (strN (d + 1))) = true := by
  simp [WaiterS, -strN, strS_int, strS_bool]
theorem WaiterS_okI (l : List Waiter) : okI (.own 3 (WaiterS l)) = true := by
  simp [okI]
@[simp] theorem WaiterS_view (l : List Waiter) (h : Heap) (d : Nat) : (WaiterS l).map (List.map (viewN h (d + 1))) = WaiterS l := by
  simp [WaiterS, WaiterS, Function.comp_def]
structure Item where
  kind : Int
  obj : Int
  v : Int
  ok : Bool
deriving DecidableEq
@[simp] def Item.cl (d : Item) : List AV := [.int .i64 d.kind, .int .i64 d.obj, .int .i64 d.v, .bool d.ok]
def ItemS (l : List Item) : List (List AV) := l.map Item.cl
@[simp] theorem ItemS_length (l : List Item) : (ItemS l).length = l.length := by simp [ItemS]
@[simp] theorem ItemS_get (l : List Item) (k : Nat) : (ItemS l)[k]? = (l[k]?).map Item.cl := by simp [ItemS]
@[simp] theorem ItemS_getE (l : List Item) (k : Nat) (h : k < (ItemS l).length) : (ItemS l)[k] = Item.cl (l[k]'(by simpa using h)) := by simp [ItemS]
@[simp] theorem ItemS_take (l : List Item) : List.take l.length (ItemS l) = ItemS l := by
  have := List.take_length (l := ItemS l)
  rwa [ItemS_length] at this
@[simp] theorem ItemS_nil : ItemS [] = [] := rfl
theorem ItemS_len {l : List Item} {e : List AV} (h : e ∈ ItemS l) : e.length = 4 := by
  obtain ⟨d, _, rfl⟩ := List.mem_map.1 h; rfl
@[simp] theorem ItemS_ren (l : List Item) (ids : List Nat) (d : Nat) : (ItemS l).map (List.map (renN ids (d + 1))) = ItemS l := by
  simp [ItemS, Function.comp_def]
@[simp] theorem ItemS_low (n : Nat) (l : List Item) : lowEs n (ItemS l) = true := by
  simp [lowEs, ItemS]
@[simp] theorem ItemS_lowT (n : Nat) (l : List Item) (k : Nat) : lowEs n ((ItemS l).take k) = true := lowEs_take (ItemS_low n l) k
@[simp] theorem ItemS_str (d : Nat) (l : List Item) : ((ItemS l).all fun e => e.all (strN (d + 1))) = true := by
  simp [ItemS, -strN, strS_int, strS_bool]
theorem ItemS_okI (l : List Item) : okI (.own 4 (ItemS l)) = true := by
  simp [okI]
@[simp] theorem ItemS_view (l : List Item) (h : Heap) (d : Nat) : (ItemS l).map (List.map (viewN h (d + 1))) = ItemS l := by
  simp [ItemS, ItemS, Function.comp_def]
structure Instr where
  op : Int
  a : Int
  b : Int
  c : Int
deriving DecidableEq
@[simp] def Instr.cl (d : Instr) : List AV := [.int .i64 d.op, .int .i64 d.a, .int .i64 d.b, .int .i64 d.c]
def InstrS (l : List Instr) : List (List AV) := l.map Instr.cl
@[simp] theorem InstrS_length (l : List Instr) : (InstrS l).length = l.length := by simp [InstrS]
@[simp] theorem InstrS_get (l : List Instr) (k : Nat) : (InstrS l)[k]? = (l[k]?).map Instr.cl := by simp [InstrS]
@[simp] theorem InstrS_getE (l : List Instr) (k : Nat) (h : k < (InstrS l).length) : (InstrS l)[k] = Instr.cl (l[k]'(by simpa using h)) := by simp [InstrS]
@[simp] theorem InstrS_take (l : List Instr) : List.take l.length (InstrS l) = InstrS l := by
  have := List.take_length (l := InstrS l)
  rwa [InstrS_length] at this
@[simp] theorem InstrS_nil : InstrS [] = [] := rfl
@[simp] theorem InstrS_ren (l : List Instr) (ids : List Nat) (d : Nat) : (InstrS l).map (List.map (renN ids (d + 1))) = InstrS l := by
  simp [InstrS, Function.comp_def]
@[simp] theorem InstrS_low (n : Nat) (l : List Instr) : lowEs n (InstrS l) = true := by
  simp [lowEs, InstrS]
@[simp] theorem InstrS_lowT (n : Nat) (l : List Instr) (k : Nat) : lowEs n ((InstrS l).take k) = true := lowEs_take (InstrS_low n l) k
@[simp] theorem InstrS_str (d : Nat) (l : List Instr) : ((InstrS l).all fun e => e.all (strN (d + 1))) = true := by
  simp [InstrS, -strN, strS_int, strS_bool]
theorem InstrS_okI (l : List Instr) : okI (.own 4 (InstrS l)) = true := by
  simp [okI]
@[simp] theorem InstrS_view (l : List Instr) (h : Heap) (d : Nat) : (InstrS l).map (List.map (viewN h (d + 1))) = InstrS l := by
  simp [InstrS, InstrS, Function.comp_def]
structure Case where
  send : Bool
  chan : Int
  reg : Int
  ok : Int
  to : Int
deriving DecidableEq
@[simp] def Case.cl (d : Case) : List AV := [.bool d.send, .int .i64 d.chan, .int .i64 d.reg, .int .i64 d.ok, .int .i64 d.to]
def CaseS (l : List Case) : List (List AV) := l.map Case.cl
@[simp] theorem CaseS_length (l : List Case) : (CaseS l).length = l.length := by simp [CaseS]
@[simp] theorem CaseS_get (l : List Case) (k : Nat) : (CaseS l)[k]? = (l[k]?).map Case.cl := by simp [CaseS]
@[simp] theorem CaseS_getE (l : List Case) (k : Nat) (h : k < (CaseS l).length) : (CaseS l)[k] = Case.cl (l[k]'(by simpa using h)) := by simp [CaseS]
@[simp] theorem CaseS_take (l : List Case) : List.take l.length (CaseS l) = CaseS l := by
  have := List.take_length (l := CaseS l)
  rwa [CaseS_length] at this
@[simp] theorem CaseS_nil : CaseS [] = [] := rfl
theorem CaseS_lenG (l : List Case) (k : Nat) (h : k < l.length) : ((Option.map Case.cl l[k]?).getD []).length = 5 := by simp [h]
@[simp] theorem CaseS_ren (l : List Case) (ids : List Nat) (d : Nat) : (CaseS l).map (List.map (renN ids (d + 1))) = CaseS l := by
  simp [CaseS, Function.comp_def]
@[simp] theorem CaseS_low (n : Nat) (l : List Case) : lowEs n (CaseS l) = true := by
  simp [lowEs, CaseS]
@[simp] theorem CaseS_lowT (n : Nat) (l : List Case) (k : Nat) : lowEs n ((CaseS l).take k) = true := lowEs_take (CaseS_low n l) k
@[simp] theorem CaseS_str (d : Nat) (l : List Case) : ((CaseS l).all fun e => e.all (strN (d + 1))) = true := by
  simp [CaseS, -strN, strS_int, strS_bool]
theorem CaseS_okI (l : List Case) : okI (.own 5 (CaseS l)) = true := by
  simp [okI]
@[simp] theorem CaseS_view (l : List Case) (h : Heap) (d : Nat) : (CaseS l).map (List.map (viewN h (d + 1))) = CaseS l := by
  simp [CaseS, CaseS, Function.comp_def]
structure Chan where
  cap : Int
  buf : List Int
  sends : List Waiter
  recvs : List Waiter
  closed : Bool
deriving DecidableEq
@[simp] def Chan.fr (d : Chan) : List AV := [.int .i64 d.cap, .fz (IntS d.buf), .fz (WaiterS d.sends), .fz (WaiterS d.recvs), .bool d.closed]
def ChanSf (l : List Chan) : List (List AV) := l.map Chan.fr
@[simp] theorem ChanSf_length (l : List Chan) : (ChanSf l).length = l.length := by simp [ChanSf]
@[simp] theorem ChanSf_get (l : List Chan) (k : Nat) : (ChanSf l)[k]? = (l[k]?).map Chan.fr := by simp [ChanSf]
@[simp] theorem ChanSf_getE (l : List Chan) (k : Nat) (h : k < (ChanSf l).length) : (ChanSf l)[k] = Chan.fr (l[k]'(by simpa using h)) := by simp [ChanSf]
@[simp] theorem ChanSf_take (l : List Chan) : List.take l.length (ChanSf l) = ChanSf l := by
  have := List.take_length (l := ChanSf l)
  rwa [ChanSf_length] at this
@[simp] theorem ChanSf_nil : ChanSf [] = [] := rfl
@[simp] theorem ChanSf_ren (l : List Chan) (ids : List Nat) (d : Nat) : (ChanSf l).map (List.map (renN ids (d + 1))) = ChanSf l := by
  simp [ChanSf, Function.comp_def]
@[simp] theorem ChanSf_low (n : Nat) (l : List Chan) : lowEs n (ChanSf l) = true := by
  simp [lowEs, ChanSf]
@[simp] theorem ChanSf_lowT (n : Nat) (l : List Chan) (k : Nat) : lowEs n ((ChanSf l).take k) = true := lowEs_take (ChanSf_low n l) k
@[simp] theorem ChanSf_view (l : List Chan) (h : Heap) (d : Nat) : (ChanSf l).map (List.map (viewN h (d + 2))) = ChanSf l := by
  simp [ChanSf, ChanSf, Function.comp_def]
@[simp] def Chan.ow (d : Chan) : List AV := [.int .i64 d.cap, .own 1 (IntS d.buf), .own 3 (WaiterS d.sends), .own 3 (WaiterS d.recvs), .bool d.closed]
def ChanSo (l : List Chan) : List (List AV) := l.map Chan.ow
@[simp] theorem ChanSo_length (l : List Chan) : (ChanSo l).length = l.length := by simp [ChanSo]
@[simp] theorem ChanSo_get (l : List Chan) (k : Nat) : (ChanSo l)[k]? = (l[k]?).map Chan.ow := by simp [ChanSo]
@[simp] theorem ChanSo_getE (l : List Chan) (k : Nat) (h : k < (ChanSo l).length) : (ChanSo l)[k] = Chan.ow (l[k]'(by simpa using h)) := by simp [ChanSo]
@[simp] theorem ChanSo_take (l : List Chan) : List.take l.length (ChanSo l) = ChanSo l := by
  have := List.take_length (l := ChanSo l)
  rwa [ChanSo_length] at this
@[simp] theorem ChanSo_nil : ChanSo [] = [] := rfl
@[simp] theorem ChanSo_ren (l : List Chan) (ids : List Nat) (d : Nat) : (ChanSo l).map (List.map (renN ids (d + 1))) = ChanSo l := by
  simp [ChanSo, Function.comp_def]
@[simp] theorem ChanSo_low (n : Nat) (l : List Chan) : lowEs n (ChanSo l) = true := by
  simp [lowEs, ChanSo]
@[simp] theorem ChanSo_lowT (n : Nat) (l : List Chan) (k : Nat) : lowEs n ((ChanSo l).take k) = true := lowEs_take (ChanSo_low n l) k
@[simp] theorem ChanSo_str (d : Nat) (l : List Chan) : ((ChanSo l).all fun e => e.all (strN (d + 2))) = true := by
  simp [ChanSo, -strN, strS_int, strS_bool, strS_own]
theorem ChanSo_okI (l : List Chan) : okI (.own 5 (ChanSo l)) = true := by
  simp [okI]
@[simp] theorem ChanSo_view (l : List Chan) (h : Heap) (d : Nat) : (ChanSo l).map (List.map (viewN h (d + 2))) = ChanSf l := by
  simp [ChanSo, ChanSf, Function.comp_def]
def Chan.ok (d : Chan) : Prop := d.buf.length ≤ 1048576 ∧ d.sends.length ≤ 1048576 ∧ d.recvs.length ≤ 1048576
def Chan.fit (d : Chan) : Prop := d.buf.length ≤ maxLen ∧ d.sends.length ≤ maxLen ∧ d.recvs.length ≤ maxLen
def Chan.sz (d : Chan) : Nat := d.buf.length + d.sends.length + d.recvs.length
theorem Chan.sz_ok {d : Chan} (h : d.sz ≤ 1048576) : d.ok := by
  unfold Chan.sz at h; exact ⟨by omega, by omega, by omega⟩
theorem Chan_oI (d : Chan) : okI (.agg d.ow) = true := by simp
structure Mutex where
  owner : Int
  wait : List Int
deriving DecidableEq
@[simp] def Mutex.fr (d : Mutex) : List AV := [.int .i64 d.owner, .fz (IntS d.wait)]
def MutexSf (l : List Mutex) : List (List AV) := l.map Mutex.fr
@[simp] theorem MutexSf_length (l : List Mutex) : (MutexSf l).length = l.length := by simp [MutexSf]
@[simp] theorem MutexSf_get (l : List Mutex) (k : Nat) : (MutexSf l)[k]? = (l[k]?).map Mutex.fr := by simp [MutexSf]
@[simp] theorem MutexSf_getE (l : List Mutex) (k : Nat) (h : k < (MutexSf l).length) : (MutexSf l)[k] = Mutex.fr (l[k]'(by simpa using h)) := by simp [MutexSf]
@[simp] theorem MutexSf_take (l : List Mutex) : List.take l.length (MutexSf l) = MutexSf l := by
  have := List.take_length (l := MutexSf l)
  rwa [MutexSf_length] at this
@[simp] theorem MutexSf_nil : MutexSf [] = [] := rfl
theorem MutexSf_len {l : List Mutex} {e : List AV} (h : e ∈ MutexSf l) : e.length = 2 := by
  obtain ⟨d, _, rfl⟩ := List.mem_map.1 h; rfl
@[simp] theorem MutexSf_ren (l : List Mutex) (ids : List Nat) (d : Nat) : (MutexSf l).map (List.map (renN ids (d + 1))) = MutexSf l := by
  simp [MutexSf, Function.comp_def]
@[simp] theorem MutexSf_low (n : Nat) (l : List Mutex) : lowEs n (MutexSf l) = true := by
  simp [lowEs, MutexSf]
@[simp] theorem MutexSf_lowT (n : Nat) (l : List Mutex) (k : Nat) : lowEs n ((MutexSf l).take k) = true := lowEs_take (MutexSf_low n l) k
@[simp] theorem MutexSf_view (l : List Mutex) (h : Heap) (d : Nat) : (MutexSf l).map (List.map (viewN h (d + 2))) = MutexSf l := by
  simp [MutexSf, MutexSf, Function.comp_def]
@[simp] def Mutex.ow (d : Mutex) : List AV := [.int .i64 d.owner, .own 1 (IntS d.wait)]
def MutexSo (l : List Mutex) : List (List AV) := l.map Mutex.ow
@[simp] theorem MutexSo_length (l : List Mutex) : (MutexSo l).length = l.length := by simp [MutexSo]
@[simp] theorem MutexSo_get (l : List Mutex) (k : Nat) : (MutexSo l)[k]? = (l[k]?).map Mutex.ow := by simp [MutexSo]
@[simp] theorem MutexSo_getE (l : List Mutex) (k : Nat) (h : k < (MutexSo l).length) : (MutexSo l)[k] = Mutex.ow (l[k]'(by simpa using h)) := by simp [MutexSo]
@[simp] theorem MutexSo_take (l : List Mutex) : List.take l.length (MutexSo l) = MutexSo l := by
  have := List.take_length (l := MutexSo l)
  rwa [MutexSo_length] at this
@[simp] theorem MutexSo_nil : MutexSo [] = [] := rfl
@[simp] theorem MutexSo_ren (l : List Mutex) (ids : List Nat) (d : Nat) : (MutexSo l).map (List.map (renN ids (d + 1))) = MutexSo l := by
  simp [MutexSo, Function.comp_def]
@[simp] theorem MutexSo_low (n : Nat) (l : List Mutex) : lowEs n (MutexSo l) = true := by
  simp [lowEs, MutexSo]
@[simp] theorem MutexSo_lowT (n : Nat) (l : List Mutex) (k : Nat) : lowEs n ((MutexSo l).take k) = true := lowEs_take (MutexSo_low n l) k
@[simp] theorem MutexSo_str (d : Nat) (l : List Mutex) : ((MutexSo l).all fun e => e.all (strN (d + 2))) = true := by
  simp [MutexSo, -strN, strS_int, strS_bool, strS_own]
theorem MutexSo_okI (l : List Mutex) : okI (.own 2 (MutexSo l)) = true := by
  simp [okI]
@[simp] theorem MutexSo_view (l : List Mutex) (h : Heap) (d : Nat) : (MutexSo l).map (List.map (viewN h (d + 2))) = MutexSf l := by
  simp [MutexSo, MutexSf, Function.comp_def]
def Mutex.ok (d : Mutex) : Prop := d.wait.length ≤ 1048576
def Mutex.fit (d : Mutex) : Prop := d.wait.length ≤ maxLen
def Mutex.sz (d : Mutex) : Nat := d.wait.length
theorem Mutex.sz_ok {d : Mutex} (h : d.sz ≤ 1048576) : d.ok := by
  unfold Mutex.sz at h; unfold Mutex.ok; exact by omega
theorem Mutex_oI (d : Mutex) : okI (.agg d.ow) = true := by simp
structure Gor where
  proc : Int
  pc : Int
  regs : List Int
  state : Int
  trace : List Item
deriving DecidableEq
@[simp] def Gor.fr (d : Gor) : List AV := [.int .i64 d.proc, .int .i64 d.pc, .fz (IntS d.regs), .int .i64 d.state, .fz (ItemS d.trace)]
def GorSf (l : List Gor) : List (List AV) := l.map Gor.fr
@[simp] theorem GorSf_length (l : List Gor) : (GorSf l).length = l.length := by simp [GorSf]
@[simp] theorem GorSf_get (l : List Gor) (k : Nat) : (GorSf l)[k]? = (l[k]?).map Gor.fr := by simp [GorSf]
@[simp] theorem GorSf_getE (l : List Gor) (k : Nat) (h : k < (GorSf l).length) : (GorSf l)[k] = Gor.fr (l[k]'(by simpa using h)) := by simp [GorSf]
@[simp] theorem GorSf_take (l : List Gor) : List.take l.length (GorSf l) = GorSf l := by
  have := List.take_length (l := GorSf l)
  rwa [GorSf_length] at this
@[simp] theorem GorSf_nil : GorSf [] = [] := rfl
@[simp] theorem GorSf_ren (l : List Gor) (ids : List Nat) (d : Nat) : (GorSf l).map (List.map (renN ids (d + 1))) = GorSf l := by
  simp [GorSf, Function.comp_def]
@[simp] theorem GorSf_low (n : Nat) (l : List Gor) : lowEs n (GorSf l) = true := by
  simp [lowEs, GorSf]
@[simp] theorem GorSf_lowT (n : Nat) (l : List Gor) (k : Nat) : lowEs n ((GorSf l).take k) = true := lowEs_take (GorSf_low n l) k
@[simp] theorem GorSf_view (l : List Gor) (h : Heap) (d : Nat) : (GorSf l).map (List.map (viewN h (d + 2))) = GorSf l := by
  simp [GorSf, GorSf, Function.comp_def]
@[simp] def Gor.ow (d : Gor) : List AV := [.int .i64 d.proc, .int .i64 d.pc, .own 1 (IntS d.regs), .int .i64 d.state, .own 4 (ItemS d.trace)]
def GorSo (l : List Gor) : List (List AV) := l.map Gor.ow
@[simp] theorem GorSo_length (l : List Gor) : (GorSo l).length = l.length := by simp [GorSo]
@[simp] theorem GorSo_get (l : List Gor) (k : Nat) : (GorSo l)[k]? = (l[k]?).map Gor.ow := by simp [GorSo]
@[simp] theorem GorSo_getE (l : List Gor) (k : Nat) (h : k < (GorSo l).length) : (GorSo l)[k] = Gor.ow (l[k]'(by simpa using h)) := by simp [GorSo]
@[simp] theorem GorSo_take (l : List Gor) : List.take l.length (GorSo l) = GorSo l := by
  have := List.take_length (l := GorSo l)
  rwa [GorSo_length] at this
@[simp] theorem GorSo_nil : GorSo [] = [] := rfl
@[simp] theorem GorSo_ren (l : List Gor) (ids : List Nat) (d : Nat) : (GorSo l).map (List.map (renN ids (d + 1))) = GorSo l := by
  simp [GorSo, Function.comp_def]
@[simp] theorem GorSo_low (n : Nat) (l : List Gor) : lowEs n (GorSo l) = true := by
  simp [lowEs, GorSo]
@[simp] theorem GorSo_lowT (n : Nat) (l : List Gor) (k : Nat) : lowEs n ((GorSo l).take k) = true := lowEs_take (GorSo_low n l) k
@[simp] theorem GorSo_str (d : Nat) (l : List Gor) : ((GorSo l).all fun e => e.all (strN (d + 2))) = true := by
  simp [GorSo, -strN, strS_int, strS_bool, strS_own]
theorem GorSo_okI (l : List Gor) : okI (.own 5 (GorSo l)) = true := by
  simp [okI]
@[simp] theorem GorSo_view (l : List Gor) (h : Heap) (d : Nat) : (GorSo l).map (List.map (viewN h (d + 2))) = GorSf l := by
  simp [GorSo, GorSf, Function.comp_def]
def Gor.ok (d : Gor) : Prop := d.regs.length ≤ 1048576 ∧ d.trace.length ≤ 1048576
def Gor.fit (d : Gor) : Prop := d.regs.length ≤ maxLen ∧ d.trace.length ≤ maxLen
def Gor.sz (d : Gor) : Nat := d.regs.length + d.trace.length
theorem Gor.sz_ok {d : Gor} (h : d.sz ≤ 1048576) : d.ok := by
  unfold Gor.sz at h; exact ⟨by omega, by omega⟩
theorem Gor_oI (d : Gor) : okI (.agg d.ow) = true := by simp
structure Select where
  cases : List Case
  els : Int
deriving DecidableEq
@[simp] def Select.fr (d : Select) : List AV := [.fz (CaseS d.cases), .int .i64 d.els]
def SelectSf (l : List Select) : List (List AV) := l.map Select.fr
@[simp] theorem SelectSf_length (l : List Select) : (SelectSf l).length = l.length := by simp [SelectSf]
@[simp] theorem SelectSf_get (l : List Select) (k : Nat) : (SelectSf l)[k]? = (l[k]?).map Select.fr := by simp [SelectSf]
@[simp] theorem SelectSf_getE (l : List Select) (k : Nat) (h : k < (SelectSf l).length) : (SelectSf l)[k] = Select.fr (l[k]'(by simpa using h)) := by simp [SelectSf]
@[simp] theorem SelectSf_take (l : List Select) : List.take l.length (SelectSf l) = SelectSf l := by
  have := List.take_length (l := SelectSf l)
  rwa [SelectSf_length] at this
@[simp] theorem SelectSf_nil : SelectSf [] = [] := rfl
@[simp] theorem SelectSf_ren (l : List Select) (ids : List Nat) (d : Nat) : (SelectSf l).map (List.map (renN ids (d + 1))) = SelectSf l := by
  simp [SelectSf, Function.comp_def]
@[simp] theorem SelectSf_low (n : Nat) (l : List Select) : lowEs n (SelectSf l) = true := by
  simp [lowEs, SelectSf]
@[simp] theorem SelectSf_lowT (n : Nat) (l : List Select) (k : Nat) : lowEs n ((SelectSf l).take k) = true := lowEs_take (SelectSf_low n l) k
@[simp] theorem SelectSf_view (l : List Select) (h : Heap) (d : Nat) : (SelectSf l).map (List.map (viewN h (d + 2))) = SelectSf l := by
  simp [SelectSf, SelectSf, Function.comp_def]
@[simp] def Select.ow (d : Select) : List AV := [.own 5 (CaseS d.cases), .int .i64 d.els]
def SelectSo (l : List Select) : List (List AV) := l.map Select.ow
@[simp] theorem SelectSo_length (l : List Select) : (SelectSo l).length = l.length := by simp [SelectSo]
@[simp] theorem SelectSo_get (l : List Select) (k : Nat) : (SelectSo l)[k]? = (l[k]?).map Select.ow := by simp [SelectSo]
@[simp] theorem SelectSo_getE (l : List Select) (k : Nat) (h : k < (SelectSo l).length) : (SelectSo l)[k] = Select.ow (l[k]'(by simpa using h)) := by simp [SelectSo]
@[simp] theorem SelectSo_take (l : List Select) : List.take l.length (SelectSo l) = SelectSo l := by
  have := List.take_length (l := SelectSo l)
  rwa [SelectSo_length] at this
@[simp] theorem SelectSo_nil : SelectSo [] = [] := rfl
@[simp] theorem SelectSo_ren (l : List Select) (ids : List Nat) (d : Nat) : (SelectSo l).map (List.map (renN ids (d + 1))) = SelectSo l := by
  simp [SelectSo, Function.comp_def]
@[simp] theorem SelectSo_low (n : Nat) (l : List Select) : lowEs n (SelectSo l) = true := by
  simp [lowEs, SelectSo]
@[simp] theorem SelectSo_lowT (n : Nat) (l : List Select) (k : Nat) : lowEs n ((SelectSo l).take k) = true := lowEs_take (SelectSo_low n l) k
@[simp] theorem SelectSo_str (d : Nat) (l : List Select) : ((SelectSo l).all fun e => e.all (strN (d + 2))) = true := by
  simp [SelectSo, -strN, strS_int, strS_bool, strS_own]
theorem SelectSo_okI (l : List Select) : okI (.own 2 (SelectSo l)) = true := by
  simp [okI]
@[simp] theorem SelectSo_view (l : List Select) (h : Heap) (d : Nat) : (SelectSo l).map (List.map (viewN h (d + 2))) = SelectSf l := by
  simp [SelectSo, SelectSf, Function.comp_def]
def Select.ok (d : Select) : Prop := d.cases.length ≤ 1048576
def Select.fit (d : Select) : Prop := d.cases.length ≤ maxLen
def Select.sz (d : Select) : Nat := d.cases.length
theorem Select.sz_ok {d : Select} (h : d.sz ≤ 1048576) : d.ok := by
  unfold Select.sz at h; unfold Select.ok; exact by omega
theorem Select_oI (d : Select) : okI (.agg d.ow) = true := by simp
structure Proc where
  code : List Instr
deriving DecidableEq
@[simp] def Proc.fr (d : Proc) : List AV := [.fz (InstrS d.code)]
def ProcSf (l : List Proc) : List (List AV) := l.map Proc.fr
@[simp] theorem ProcSf_length (l : List Proc) : (ProcSf l).length = l.length := by simp [ProcSf]
@[simp] theorem ProcSf_get (l : List Proc) (k : Nat) : (ProcSf l)[k]? = (l[k]?).map Proc.fr := by simp [ProcSf]
@[simp] theorem ProcSf_getE (l : List Proc) (k : Nat) (h : k < (ProcSf l).length) : (ProcSf l)[k] = Proc.fr (l[k]'(by simpa using h)) := by simp [ProcSf]
@[simp] theorem ProcSf_take (l : List Proc) : List.take l.length (ProcSf l) = ProcSf l := by
  have := List.take_length (l := ProcSf l)
  rwa [ProcSf_length] at this
@[simp] theorem ProcSf_nil : ProcSf [] = [] := rfl
@[simp] theorem ProcSf_ren (l : List Proc) (ids : List Nat) (d : Nat) : (ProcSf l).map (List.map (renN ids (d + 1))) = ProcSf l := by
  simp [ProcSf, Function.comp_def]
@[simp] theorem ProcSf_low (n : Nat) (l : List Proc) : lowEs n (ProcSf l) = true := by
  simp [lowEs, ProcSf]
@[simp] theorem ProcSf_lowT (n : Nat) (l : List Proc) (k : Nat) : lowEs n ((ProcSf l).take k) = true := lowEs_take (ProcSf_low n l) k
@[simp] theorem ProcSf_view (l : List Proc) (h : Heap) (d : Nat) : (ProcSf l).map (List.map (viewN h (d + 2))) = ProcSf l := by
  simp [ProcSf, ProcSf, Function.comp_def]
@[simp] def Proc.ow (d : Proc) : List AV := [.own 4 (InstrS d.code)]
def ProcSo (l : List Proc) : List (List AV) := l.map Proc.ow
@[simp] theorem ProcSo_length (l : List Proc) : (ProcSo l).length = l.length := by simp [ProcSo]
@[simp] theorem ProcSo_get (l : List Proc) (k : Nat) : (ProcSo l)[k]? = (l[k]?).map Proc.ow := by simp [ProcSo]
@[simp] theorem ProcSo_getE (l : List Proc) (k : Nat) (h : k < (ProcSo l).length) : (ProcSo l)[k] = Proc.ow (l[k]'(by simpa using h)) := by simp [ProcSo]
@[simp] theorem ProcSo_take (l : List Proc) : List.take l.length (ProcSo l) = ProcSo l := by
  have := List.take_length (l := ProcSo l)
  rwa [ProcSo_length] at this
@[simp] theorem ProcSo_nil : ProcSo [] = [] := rfl
@[simp] theorem ProcSo_ren (l : List Proc) (ids : List Nat) (d : Nat) : (ProcSo l).map (List.map (renN ids (d + 1))) = ProcSo l := by
  simp [ProcSo, Function.comp_def]
@[simp] theorem ProcSo_low (n : Nat) (l : List Proc) : lowEs n (ProcSo l) = true := by
  simp [lowEs, ProcSo]
@[simp] theorem ProcSo_lowT (n : Nat) (l : List Proc) (k : Nat) : lowEs n ((ProcSo l).take k) = true := lowEs_take (ProcSo_low n l) k
@[simp] theorem ProcSo_str (d : Nat) (l : List Proc) : ((ProcSo l).all fun e => e.all (strN (d + 2))) = true := by
  simp [ProcSo, -strN, strS_int, strS_bool, strS_own]
theorem ProcSo_okI (l : List Proc) : okI (.own 1 (ProcSo l)) = true := by
  simp [okI]
@[simp] theorem ProcSo_view (l : List Proc) (h : Heap) (d : Nat) : (ProcSo l).map (List.map (viewN h (d + 2))) = ProcSf l := by
  simp [ProcSo, ProcSf, Function.comp_def]
def Proc.ok (d : Proc) : Prop := d.code.length ≤ 1048576
def Proc.fit (d : Proc) : Prop := d.code.length ≤ maxLen
def Proc.sz (d : Proc) : Nat := d.code.length
theorem Proc.sz_ok {d : Proc} (h : d.sz ≤ 1048576) : d.ok := by
  unfold Proc.sz at h; unfold Proc.ok; exact by omega
theorem Proc_oI (d : Proc) : okI (.agg d.ow) = true := by simp
structure Eng where
  gs : List Gor
  chans : List Chan
  mus : List Mutex
@[simp] def Eng.fr (d : Eng) : List AV := [.fz (GorSf d.gs), .fz (ChanSf d.chans), .fz (MutexSf d.mus)]
@[simp] def Eng.ow (d : Eng) : List AV := [.own 5 (GorSo d.gs), .own 5 (ChanSo d.chans), .own 2 (MutexSo d.mus)]
def Eng.ok (d : Eng) : Prop := d.gs.length ≤ 1048576 ∧ (∀ x ∈ d.gs, x.ok) ∧ d.chans.length ≤ 1048576 ∧ (∀ x ∈ d.chans, x.ok) ∧ d.mus.length ≤ 1048576 ∧ (∀ x ∈ d.mus, x.ok)
def Eng.fit (d : Eng) : Prop := d.gs.length ≤ maxLen ∧ (∀ x ∈ d.gs, x.fit) ∧ d.chans.length ≤ maxLen ∧ (∀ x ∈ d.chans, x.fit) ∧ d.mus.length ≤ maxLen ∧ (∀ x ∈ d.mus, x.fit)
def Eng.sz (d : Eng) : Nat := szL Gor.sz d.gs + szL Chan.sz d.chans + szL Mutex.sz d.mus
theorem Eng.sz_ok {d : Eng} (h : d.sz ≤ 1048576) : d.ok := by
  unfold Eng.sz at h
  exact ⟨by unfold szL at h; omega, fun x hx => Gor.sz_ok (Nat.le_trans (szL_mem hx) (by omega)), by unfold szL at h; omega, fun x hx => Chan.sz_ok (Nat.le_trans (szL_mem hx) (by omega)), by unfold szL at h; omega, fun x hx => Mutex.sz_ok (Nat.le_trans (szL_mem hx) (by omega))⟩
theorem Eng_oI (d : Eng) : okI (.agg d.ow) = true := by simp
structure Prog where
  caps : List Int
  mus : Int
  sels : List Select
  procs : List Proc
@[simp] def Prog.fr (d : Prog) : List AV := [.fz (IntS d.caps), .int .i64 d.mus, .fz (SelectSf d.sels), .fz (ProcSf d.procs)]
@[simp] def Prog.ow (d : Prog) : List AV := [.own 1 (IntS d.caps), .int .i64 d.mus, .own 2 (SelectSo d.sels), .own 1 (ProcSo d.procs)]
def Prog.ok (d : Prog) : Prop := d.caps.length ≤ 1048576 ∧ d.sels.length ≤ 1048576 ∧ (∀ x ∈ d.sels, x.ok) ∧ d.procs.length ≤ 1048576 ∧ (∀ x ∈ d.procs, x.ok)
def Prog.fit (d : Prog) : Prop := d.caps.length ≤ maxLen ∧ d.sels.length ≤ maxLen ∧ (∀ x ∈ d.sels, x.fit) ∧ d.procs.length ≤ maxLen ∧ (∀ x ∈ d.procs, x.fit)
def Prog.sz (d : Prog) : Nat := d.caps.length + szL Select.sz d.sels + szL Proc.sz d.procs
theorem Prog.sz_ok {d : Prog} (h : d.sz ≤ 1048576) : d.ok := by
  unfold Prog.sz at h; exact ⟨by omega, by unfold szL at h; omega, fun x hx => Select.sz_ok (Nat.le_trans (szL_mem hx) (by omega)), by unfold szL at h; omega, fun x hx => Proc.sz_ok (Nat.le_trans (szL_mem hx) (by omega))⟩
theorem Prog_oI (d : Prog) : okI (.agg d.ow) = true := by simp
end HT
