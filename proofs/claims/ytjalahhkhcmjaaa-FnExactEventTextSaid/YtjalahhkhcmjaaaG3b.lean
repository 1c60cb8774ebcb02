import Derived.Test.YtjalahhkhcmjaaaG3
import Derived.Test.YtjalahhkhcmjaaaProg
import Derived.KernelRfl
import Derived.Test.YtjalahhkhcmjaaaG2b
/-
  My own texts (road H): HNT0 HNT1.
-/
namespace HT
open Go Go.Proofs HK
@[simp] theorem tk1 : tk Try.prog 1 = some (false, 1) := by kernel_rfl
@[simp] theorem tk2 : tk Try.prog 2 = some (false, 1) := by kernel_rfl
@[simp] theorem tint2 : tint Try.prog 2 = some .i64 := by kernel_rfl
@[simp] theorem tstr2 : tstr Try.prog 2 = false := by kernel_rfl
@[simp] theorem tzero2 : tzero Try.prog 2 = some [.int .i64 0] := by kernel_rfl
@[simp] theorem tbyt2 : tbyt Try.prog 2 = false := by kernel_rfl
@[simp] theorem tk3 : tk Try.prog 3 = some (false, 1) := by kernel_rfl
@[simp] theorem tint3 : tint Try.prog 3 = some .i64 := by kernel_rfl
@[simp] theorem tstr3 : tstr Try.prog 3 = false := by kernel_rfl
@[simp] theorem tzero3 : tzero Try.prog 3 = some [.int .i64 0] := by kernel_rfl
@[simp] theorem tbyt3 : tbyt Try.prog 3 = false := by kernel_rfl
@[simp] theorem tk4 : tk Try.prog 4 = some (false, 1) := by kernel_rfl
@[simp] theorem tstr4 : tstr Try.prog 4 = false := by kernel_rfl
@[simp] theorem tzero4 : tzero Try.prog 4 = some [.bool false] := by kernel_rfl
@[simp] theorem tk5 : tk Try.prog 5 = some (false, 1) := by kernel_rfl
@[simp] theorem tint5 : tint Try.prog 5 = some .u8 := by kernel_rfl
@[simp] theorem tstr5 : tstr Try.prog 5 = false := by kernel_rfl
@[simp] theorem tzero5 : tzero Try.prog 5 = some [.int .u8 0] := by kernel_rfl
@[simp] theorem tbyt5 : tbyt Try.prog 5 = false := by kernel_rfl
@[simp] theorem tk9 : tk Try.prog 9 = some (false, 1) := by kernel_rfl
@[simp] theorem tint9 : tint Try.prog 9 = none := by kernel_rfl
@[simp] theorem tstr9 : tstr Try.prog 9 = true := by kernel_rfl
@[simp] theorem tzero9 : tzero Try.prog 9 = some [.str ⟨#[]⟩] := by kernel_rfl
@[simp] theorem tbyt9 : tbyt Try.prog 9 = false := by kernel_rfl
@[simp] theorem tk12 : tk Try.prog 12 = some (false, 1) := by kernel_rfl
@[simp] theorem tint12 : tint Try.prog 12 = some .u64 := by kernel_rfl
@[simp] theorem tstr12 : tstr Try.prog 12 = false := by kernel_rfl
@[simp] theorem tzero12 : tzero Try.prog 12 = some [.int .u64 0] := by kernel_rfl
@[simp] theorem tbyt12 : tbyt Try.prog 12 = false := by kernel_rfl
@[simp] theorem tk13 : tk Try.prog 13 = some (true, 2) := by kernel_rfl
@[simp] theorem tzero13 : tzero Try.prog 13 = some [.str ⟨#[]⟩, .int .u64 0] := by kernel_rfl
@[simp] theorem toff13_0 : toff Try.prog 13 0 = some 0 := by kernel_rfl
@[simp] theorem toff13_1 : toff Try.prog 13 1 = some 1 := by kernel_rfl
@[simp] theorem tplaces13 : tplaces Try.prog 13 = some ([(0, 1), (1, 1)], [.str ⟨#[]⟩, .int .u64 0]) := by kernel_rfl
@[simp] theorem tk20 : tk Try.prog 20 = some (false, 1) := by kernel_rfl
@[simp] theorem tk21 : tk Try.prog 21 = some (false, 1) := by kernel_rfl
@[simp] theorem tint21 : tint Try.prog 21 = some .i32 := by kernel_rfl
@[simp] theorem tstr21 : tstr Try.prog 21 = false := by kernel_rfl
@[simp] theorem tzero21 : tzero Try.prog 21 = some [.int .i32 0] := by kernel_rfl
@[simp] theorem tbyt21 : tbyt Try.prog 21 = false := by kernel_rfl
@[simp] theorem tk22 : tk Try.prog 22 = some (true, 4) := by kernel_rfl
@[simp] theorem tzero22 : tzero Try.prog 22 = some [.int .i64 0, .int .i64 0, .int .i64 0, .int .i64 0] := by kernel_rfl
@[simp] theorem toff22_0 : toff Try.prog 22 0 = some 0 := by kernel_rfl
@[simp] theorem toff22_1 : toff Try.prog 22 1 = some 1 := by kernel_rfl
@[simp] theorem toff22_2 : toff Try.prog 22 2 = some 2 := by kernel_rfl
@[simp] theorem toff22_3 : toff Try.prog 22 3 = some 3 := by kernel_rfl
@[simp] theorem tsh22 : tsh Try.prog 22 = some [0, 0, 0, 0] := by kernel_rfl
@[simp] theorem tplaces22 : tplaces Try.prog 22 = some ([(0, 1), (1, 1), (2, 1), (3, 1)], [.int .i64 0, .int .i64 0, .int .i64 0, .int .i64 0]) := by kernel_rfl
@[simp] theorem tk23 : tk Try.prog 23 = some (true, 4) := by kernel_rfl
@[simp] theorem tzero23 : tzero Try.prog 23 = some [.int .i64 0, .int .i64 0, .int .i64 0, .int .i64 0] := by kernel_rfl
@[simp] theorem toff23_0 : toff Try.prog 23 0 = some 0 := by kernel_rfl
@[simp] theorem toff23_1 : toff Try.prog 23 1 = some 1 := by kernel_rfl
@[simp] theorem toff23_2 : toff Try.prog 23 2 = some 2 := by kernel_rfl
@[simp] theorem toff23_3 : toff Try.prog 23 3 = some 3 := by kernel_rfl
@[simp] theorem tsh23 : tsh Try.prog 23 = some [0, 0, 0, 0] := by kernel_rfl
@[simp] theorem tplaces23 : tplaces Try.prog 23 = some ([(0, 1), (1, 1), (2, 1), (3, 1)], [.int .i64 0, .int .i64 0, .int .i64 0, .int .i64 0]) := by kernel_rfl
@[simp] theorem tk24 : tk Try.prog 24 = some (false, 1) := by kernel_rfl
@[simp] theorem tk25 : tk Try.prog 25 = some (true, 4) := by kernel_rfl
@[simp] theorem tzero25 : tzero Try.prog 25 = some [.int .i64 0, .int .i64 0, .int .i64 0, .int .i64 0] := by kernel_rfl
@[simp] theorem toff25_0 : toff Try.prog 25 0 = some 0 := by kernel_rfl
@[simp] theorem toff25_1 : toff Try.prog 25 1 = some 1 := by kernel_rfl
@[simp] theorem toff25_2 : toff Try.prog 25 2 = some 2 := by kernel_rfl
@[simp] theorem toff25_3 : toff Try.prog 25 3 = some 3 := by kernel_rfl
@[simp] theorem tsh25 : tsh Try.prog 25 = some [0, 0, 0, 0] := by kernel_rfl
@[simp] theorem tplaces25 : tplaces Try.prog 25 = some ([(0, 1), (1, 1), (2, 1), (3, 1)], [.int .i64 0, .int .i64 0, .int .i64 0, .int .i64 0]) := by kernel_rfl
@[simp] theorem tk26 : tk Try.prog 26 = some (false, 1) := by kernel_rfl
@[simp] theorem tk27 : tk Try.prog 27 = some (false, 1) := by kernel_rfl
@[simp] theorem tk29 : tk Try.prog 29 = some (false, 1) := by kernel_rfl
@[simp] theorem tk30 : tk Try.prog 30 = some (false, 1) := by kernel_rfl
@[simp] theorem tk31 : tk Try.prog 31 = some (false, 1) := by kernel_rfl
@[simp] theorem tk32 : tk Try.prog 32 = some (false, 1) := by kernel_rfl
@[simp] theorem tstr32 : tstr Try.prog 32 = false := by kernel_rfl
@[simp] theorem tzero32 : tzero Try.prog 32 = some [.nil] := by kernel_rfl
@[simp] theorem tbyt32 : tbyt Try.prog 32 = false := by kernel_rfl
@[simp] theorem tel32 : tel Try.prog 32 = some (1, 16) := by kernel_rfl
@[simp] theorem tzeroE32 : tzeroE Try.prog 32 = some (1, 16, [.str ⟨#[]⟩]) := by kernel_rfl
@[simp] theorem tk33 : tk Try.prog 33 = some (false, 1) := by kernel_rfl
@[simp] theorem tk34 : tk Try.prog 34 = some (false, 1) := by kernel_rfl
@[simp] theorem tstr34 : tstr Try.prog 34 = false := by kernel_rfl
@[simp] theorem tzero34 : tzero Try.prog 34 = some [.nil] := by kernel_rfl
@[simp] theorem tbyt34 : tbyt Try.prog 34 = true := by kernel_rfl
@[simp] theorem tel34 : tel Try.prog 34 = some (1, 1) := by kernel_rfl
@[simp] theorem tzeroE34 : tzeroE Try.prog 34 = some (1, 1, [.int .u8 0]) := by kernel_rfl
@[simp] theorem tk35 : tk Try.prog 35 = some (false, 1) := by kernel_rfl
@[simp] theorem tk36 : tk Try.prog 36 = some (false, 1) := by kernel_rfl
@[simp] theorem tk37 : tk Try.prog 37 = some (true, 2) := by kernel_rfl
@[simp] theorem toff37_0 : toff Try.prog 37 0 = some 0 := by kernel_rfl
@[simp] theorem toff37_1 : toff Try.prog 37 1 = some 1 := by kernel_rfl
@[simp] theorem tk38 : tk Try.prog 38 = some (true, 2) := by kernel_rfl
@[simp] theorem toff38_0 : toff Try.prog 38 0 = some 0 := by kernel_rfl
@[simp] theorem toff38_1 : toff Try.prog 38 1 = some 1 := by kernel_rfl
@[simp] theorem tk39 : tk Try.prog 39 = some (false, 1) := by kernel_rfl
@[simp] theorem tk40 : tk Try.prog 40 = some (false, 1) := by kernel_rfl
@[simp] theorem tk41 : tk Try.prog 41 = some (false, 1) := by kernel_rfl
@[simp] theorem tk43 : tk Try.prog 43 = some (false, 1) := by kernel_rfl
@[simp] theorem tk44 : tk Try.prog 44 = some (false, 1) := by kernel_rfl
@[simp] theorem tk45 : tk Try.prog 45 = some (false, 1) := by kernel_rfl
@[simp] theorem tk46 : tk Try.prog 46 = some (false, 1) := by kernel_rfl
@[simp] theorem tk47 : tk Try.prog 47 = some (false, 1) := by kernel_rfl
@[simp] theorem tk48 : tk Try.prog 48 = some (false, 1) := by kernel_rfl
@[simp] theorem tk54 : tk Try.prog 54 = some (false, 1) := by kernel_rfl
@[simp] theorem tk55 : tk Try.prog 55 = some (false, 1) := by kernel_rfl
@[simp] theorem tint55 : tint Try.prog 55 = some .u32 := by kernel_rfl
@[simp] theorem tstr55 : tstr Try.prog 55 = false := by kernel_rfl
@[simp] theorem tzero55 : tzero Try.prog 55 = some [.int .u32 0] := by kernel_rfl
@[simp] theorem tbyt55 : tbyt Try.prog 55 = false := by kernel_rfl
@[simp] theorem tk58 : tk Try.prog 58 = some (false, 1) := by kernel_rfl
end HT

set_option linter.unusedSimpArgs false
set_option linter.unusedVariables false
namespace HT
open Go Go.Proofs HK
attribute [simp] avk
theorem mixed : Try.prog.follows .mixedOrders = true := by kernel_rfl
/-- What laws.szXS counts of a slice. -/
def szL {α : Type} (f : α → Nat) (l : List α) : Nat := l.length + (l.map f).sum
theorem wrapI (n : Int) (h : -2 ^ 63 ≤ n) (h' : n < 2 ^ 63) : IntKind.i64.wrap n = n := by
  have e : IntKind.i64.wrap n = if n % 2 ^ 64 ≥ 2 ^ 63 then n % 2 ^ 64 - 2 ^ 64 else n % 2 ^ 64 := by
    simp [IntKind.wrap, IntKind.bits, IntKind.signed]
  rw [e]
  split <;> omega
theorem wrap1 (k : Nat) (h : k + 1 < 2 ^ 63) : IntKind.i64.wrap ((k : Int) + 1) = (k : Int) + 1 := wrapI _ (by omega) (by omega)
/-- What laws.szX leaves: nothing, or what is left. -/
def szR (n : Nat) (m : Int) : Int := if (n : Int) ≤ m then m - n else -1
def IntS (l : List Int) : List (List AV) := l.map fun b => [.int .i64 b]
@[simp] theorem IntS_length (l : List Int) : (IntS l).length = l.length := by simp [IntS]
@[simp] theorem IntS_get (l : List Int) (k : Nat) : (IntS l)[k]? = (l[k]?).map (fun b => [AV.int .i64 b]) := by simp [IntS]
@[simp] theorem IntS_getE (l : List Int) (k : Nat) (h : k < (IntS l).length) : (IntS l)[k] = (fun b => [AV.int .i64 b]) (l[k]'(by simpa using h)) := by simp [IntS]
@[simp] theorem IntS_take (l : List Int) : List.take l.length (IntS l) = IntS l := by
  have := List.take_length (l := IntS l)
  rwa [IntS_length] at this
@[simp] theorem IntS_nil : IntS [] = [] := rfl
@[simp] theorem IntS_ren (l : List Int) (ids : List Nat) (d : Nat) : (IntS l).map (List.map (renN ids (d + 1))) = IntS l := by
  simp [IntS, Function.comp_def]
@[simp] theorem IntS_low (n : Nat) (l : List Int) : lowEs n (IntS l) = true := by
  simp [lowEs, IntS]
@[simp] theorem IntS_lowT (n : Nat) (l : List Int) (k : Nat) : lowEs n ((IntS l).take k) = true := lowEs_take (IntS_low n l) k
@[simp] theorem IntS_str (d : Nat) (l : List Int) : ((IntS l).all fun e => e.all (strN (d + 1))) = true := by
  simp [IntS, -strN, strS_int, strS_bool]
@[simp] theorem IntS_view (l : List Int) (h : Heap) (d : Nat) : (IntS l).map (List.map (viewN h (d + 1))) = IntS l := by
  simp [IntS, IntS, Function.comp_def]
structure Waiter where
  g : Int
  cas : Int
  v : Int
deriving DecidableEq
@[simp] def Waiter.cl (d : Waiter) : List AV := [.int .i64 d.g, .int .i64 d.cas, .int .i64 d.v]
def WaiterS (l : List Waiter) : List (List AV) := l.map Waiter.cl
@[simp] theorem WaiterS_length (l : List Waiter) : (WaiterS l).length = l.length := by simp [WaiterS]
@[simp] theorem WaiterS_get (l : List Waiter) (k : Nat) : (WaiterS l)[k]? = (l[k]?).map Waiter.cl := by simp [WaiterS]
@[simp] theorem WaiterS_getE (l : List Waiter) (k : Nat) (h : k < (WaiterS l).length) : (WaiterS l)[k] = Waiter.cl (l[k]'(by simpa using h)) := by simp [WaiterS]
@[simp] theorem WaiterS_take (l : List Waiter) : List.take l.length (WaiterS l) = WaiterS l := by
  have := List.take_length (l := WaiterS l)
  rwa [WaiterS_length] at this
@[simp] theorem WaiterS_nil : WaiterS [] = [] := rfl
@[simp] theorem WaiterS_ren (l : List Waiter) (ids : List Nat) (d : Nat) : (WaiterS l).map (List.map (renN ids (d + 1))) = WaiterS l := by
  simp [WaiterS, Function.comp_def]
@[simp] theorem WaiterS_low (n : Nat) (l : List Waiter) : lowEs n (WaiterS l) = true := by
  simp [lowEs, WaiterS]
@[simp] theorem WaiterS_lowT (n : Nat) (l : List Waiter) (k : Nat) : lowEs n ((WaiterS l).take k) = true := lowEs_take (WaiterS_low n l) k
@[simp] theorem WaiterS_str (d : Nat) (l : List Waiter) : ((WaiterS l).all fun e => e.all (strN (d + 1))) = true := by
  simp [WaiterS, -strN, strS_int, strS_bool]
@[simp] theorem WaiterS_view (l : List Waiter) (h : Heap) (d : Nat) : (WaiterS l).map (List.map (viewN h (d + 1))) = WaiterS l := by
  simp [WaiterS, WaiterS, Function.comp_def]
structure Item where
  kind : Int
  obj : Int
  v : Int
  ok : Bool
deriving DecidableEq
@[simp] def Item.cl (d : Item) : List AV := [.int .i64 d.kind, .int .i64 d.obj, .int .i64 d.v, .bool d.ok]
def ItemS (l : List Item) : List (List AV) := l.map Item.cl
@[simp] theorem ItemS_length (l : List Item) : (ItemS l).length = l.length := by simp [ItemS]
@[simp] theorem ItemS_get (l : List Item) (k : Nat) : (ItemS l)[k]? = (l[k]?).map Item.cl := by simp [ItemS]
@[simp] theorem ItemS_getE (l : List Item) (k : Nat) (h : k < (ItemS l).length) : (ItemS l)[k] = Item.cl (l[k]'(by simpa using h)) := by simp [ItemS]
@[simp] theorem ItemS_take (l : List Item) : List.take l.length (ItemS l) = ItemS l := by
  have := List.take_length (l := ItemS l)
  rwa [ItemS_length] at this
@[simp] theorem ItemS_nil : ItemS [] = [] := rfl
@[simp] theorem ItemS_ren (l : List Item) (ids : List Nat) (d : Nat) : (ItemS l).map (List.map (renN ids (d + 1))) = ItemS l := by
  simp [ItemS, Function.comp_def]
@[simp] theorem ItemS_low (n : Nat) (l : List Item) : lowEs n (ItemS l) = true := by
  simp [lowEs, ItemS]
@[simp] theorem ItemS_lowT (n : Nat) (l : List Item) (k : Nat) : lowEs n ((ItemS l).take k) = true := lowEs_take (ItemS_low n l) k
@[simp] theorem ItemS_str (d : Nat) (l : List Item) : ((ItemS l).all fun e => e.all (strN (d + 1))) = true := by
  simp [ItemS, -strN, strS_int, strS_bool]
@[simp] theorem ItemS_view (l : List Item) (h : Heap) (d : Nat) : (ItemS l).map (List.map (viewN h (d + 1))) = ItemS l := by
  simp [ItemS, ItemS, Function.comp_def]
structure Instr where
  op : Int
  a : Int
  b : Int
  c : Int
deriving DecidableEq
@[simp] def Instr.cl (d : Instr) : List AV := [.int .i64 d.op, .int .i64 d.a, .int .i64 d.b, .int .i64 d.c]
def InstrS (l : List Instr) : List (List AV) := l.map Instr.cl
@[simp] theorem InstrS_length (l : List Instr) : (InstrS l).length = l.length := by simp [InstrS]
@[simp] theorem InstrS_get (l : List Instr) (k : Nat) : (InstrS l)[k]? = (l[k]?).map Instr.cl := by simp [InstrS]
@[simp] theorem InstrS_getE (l : List Instr) (k : Nat) (h : k < (InstrS l).length) : (InstrS l)[k] = Instr.cl (l[k]'(by simpa using h)) := by simp [InstrS]
@[simp] theorem InstrS_take (l : List Instr) : List.take l.length (InstrS l) = InstrS l := by
  have := List.take_length (l := InstrS l)
  rwa [InstrS_length] at this
@[simp] theorem InstrS_nil : InstrS [] = [] := rfl
@[simp] theorem InstrS_ren (l : List Instr) (ids : List Nat) (d : Nat) : (InstrS l).map (List.map (renN ids (d + 1))) = InstrS l := by
  simp [InstrS, Function.comp_def]
@[simp] theorem InstrS_low (n : Nat) (l : List Instr) : lowEs n (InstrS l) = true := by
  simp [lowEs, InstrS]
@[simp] theorem InstrS_lowT (n : Nat) (l : List Instr) (k : Nat) : lowEs n ((InstrS l).take k) = true := lowEs_take (InstrS_low n l) k
@[simp] theorem InstrS_str (d : Nat) (l : List Instr) : ((InstrS l).all fun e => e.all (strN (d + 1))) = true := by
  simp [InstrS, -strN, strS_int, strS_bool]
@[simp] theorem InstrS_view (l : List Instr) (h : Heap) (d : Nat) : (InstrS l).map (List.map (viewN h (d + 1))) = InstrS l := by
  simp [InstrS, InstrS, Function.comp_def]
structure Case where
  send : Bool
  chan : Int
  reg : Int
  ok : Int
  to : Int
deriving DecidableEq
@[simp] def Case.cl (d : Case) : List AV := [.bool d.send, .int .i64 d.chan, .int .i64 d.reg, .int .i64 d.ok, .int .i64 d.to]
def CaseS (l : List Case) : List (List AV) := l.map Case.cl
@[simp] theorem CaseS_length (l : List Case) : (CaseS l).length = l.length := by simp [CaseS]
@[simp] theorem CaseS_get (l : List Case) (k : Nat) : (CaseS l)[k]? = (l[k]?).map Case.cl := by simp [CaseS]
@[simp] theorem CaseS_getE (l : List Case) (k : Nat) (h : k < (CaseS l).length) : (CaseS l)[k] = Case.cl (l[k]'(by simpa using h)) := by simp [CaseS]
@[simp] theorem CaseS_take (l : List Case) : List.take l.length (CaseS l) = CaseS l := by
  have := List.take_length (l := CaseS l)
  rwa [CaseS_length] at this
@[simp] theorem CaseS_nil : CaseS [] = [] := rfl
@[simp] theorem CaseS_ren (l : List Case) (ids : List Nat) (d : Nat) : (CaseS l).map (List.map (renN ids (d + 1))) = CaseS l := by
  simp [CaseS, Function.comp_def]
@[simp] theorem CaseS_low (n : Nat) (l : List Case) : lowEs n (CaseS l) = true := by
  simp [lowEs, CaseS]
@[simp] theorem CaseS_lowT (n : Nat) (l : List Case) (k : Nat) : lowEs n ((CaseS l).take k) = true := lowEs_take (CaseS_low n l) k
@[simp] theorem CaseS_str (d : Nat) (l : List Case) : ((CaseS l).all fun e => e.all (strN (d + 1))) = true := by
  simp [CaseS, -strN, strS_int, strS_bool]
@[simp] theorem CaseS_view (l : List Case) (h : Heap) (d : Nat) : (CaseS l).map (List.map (viewN h (d + 1))) = CaseS l := by
  simp [CaseS, CaseS, Function.comp_def]
structure Chan where
  cap : Int
  buf : List Int
  sends : List Waiter
  recvs : List Waiter
  closed : Bool
deriving DecidableEq
@[simp] def Chan.fr (d : Chan) : List AV := [.int .i64 d.cap, .fz (IntS d.buf), .fz (WaiterS d.sends), .fz (WaiterS d.recvs), .bool d.closed]
def ChanSf (l : List Chan) : List (List AV) := l.map Chan.fr
@[simp] theorem ChanSf_length (l : List Chan) : (ChanSf l).length = l.length := by simp [ChanSf]
@[simp] theorem ChanSf_get (l : List Chan) (k : Nat) : (ChanSf l)[k]? = (l[k]?).map Chan.fr := by simp [ChanSf]
@[simp] theorem ChanSf_getE (l : List Chan) (k : Nat) (h : k < (ChanSf l).length) : (ChanSf l)[k] = Chan.fr (l[k]'(by simpa using h)) := by simp [ChanSf]
@[simp] theorem ChanSf_take (l : List Chan) : List.take l.length (ChanSf l) = ChanSf l := by
  have := List.take_length (l := ChanSf l)
  rwa [ChanSf_length] at this
@[simp] theorem ChanSf_nil : ChanSf [] = [] := rfl
@[simp] theorem ChanSf_ren (l : List Chan) (ids : List Nat) (d : Nat) : (ChanSf l).map (List.map (renN ids (d + 1))) = ChanSf l := by
  simp [ChanSf, Function.comp_def]
@[simp] theorem ChanSf_low (n : Nat) (l : List Chan) : lowEs n (ChanSf l) = true := by
  simp [lowEs, ChanSf]
@[simp] theorem ChanSf_lowT (n : Nat) (l : List Chan) (k : Nat) : lowEs n ((ChanSf l).take k) = true := lowEs_take (ChanSf_low n l) k
@[simp] theorem ChanSf_view (l : List Chan) (h : Heap) (d : Nat) : (ChanSf l).map (List.map (viewN h (d + 2))) = ChanSf l := by
  simp [ChanSf, ChanSf, Function.comp_def]
@[simp] def Chan.ow (d : Chan) : List AV := [.int .i64 d.cap, .own 1 (IntS d.buf), .own 3 (WaiterS d.sends), .own 3 (WaiterS d.recvs), .bool d.closed]
def ChanSo (l : List Chan) : List (List AV) := l.map Chan.ow
@[simp] theorem ChanSo_length (l : List Chan) : (ChanSo l).length = l.length := by simp [ChanSo]
@[simp] theorem ChanSo_get (l : List Chan) (k : Nat) : (ChanSo l)[k]? = (l[k]?).map Chan.ow := by simp [ChanSo]
@[simp] theorem ChanSo_getE (l : List Chan) (k : Nat) (h : k < (ChanSo l).length) : (ChanSo l)[k] = Chan.ow (l[k]'(by simpa using h)) := by simp [ChanSo]
@[simp] theorem ChanSo_take (l : List Chan) : List.take l.length (ChanSo l) = ChanSo l := by
  have := List.take_length (l := ChanSo l)
  rwa [ChanSo_length] at this
@[simp] theorem ChanSo_nil : ChanSo [] = [] := rfl
@[simp] theorem ChanSo_ren (l : List Chan) (ids : List Nat) (d : Nat) : (ChanSo l).map (List.map (renN ids (d + 1))) = ChanSo l := by
  simp [ChanSo, Function.comp_def]
@[simp] theorem ChanSo_low (n : Nat) (l : List Chan) : lowEs n (ChanSo l) = true := by
  simp [lowEs, ChanSo]
@[simp] theorem ChanSo_lowT (n : Nat) (l : List Chan) (k : Nat) : lowEs n ((ChanSo l).take k) = true := lowEs_take (ChanSo_low n l) k
@[simp] theorem ChanSo_str (d : Nat) (l : List Chan) : ((ChanSo l).all fun e => e.all (strN (d + 2))) = true := by
  simp [ChanSo, -strN, strS_int, strS_bool, strS_own]
@[simp] theorem ChanSo_view (l : List Chan) (h : Heap) (d : Nat) : (ChanSo l).map (List.map (viewN h (d + 2))) = ChanSf l := by
  simp [ChanSo, ChanSf, Function.comp_def]
def Chan.ok (d : Chan) : Prop := d.buf.length ≤ 1048576 ∧ d.sends.length ≤ 1048576 ∧ d.recvs.length ≤ 1048576
def Chan.fit (d : Chan) : Prop := d.buf.length ≤ maxLen ∧ d.sends.length ≤ maxLen ∧ d.recvs.length ≤ maxLen
def Chan.sz (d : Chan) : Nat := d.buf.length + d.sends.length + d.recvs.length
structure Mutex where
  owner : Int
  wait : List Int
deriving DecidableEq
@[simp] def Mutex.fr (d : Mutex) : List AV := [.int .i64 d.owner, .fz (IntS d.wait)]
def MutexSf (l : List Mutex) : List (List AV) := l.map Mutex.fr
@[simp] theorem MutexSf_length (l : List Mutex) : (MutexSf l).length = l.length := by simp [MutexSf]
@[simp] theorem MutexSf_get (l : List Mutex) (k : Nat) : (MutexSf l)[k]? = (l[k]?).map Mutex.fr := by simp [MutexSf]
@[simp] theorem MutexSf_getE (l : List Mutex) (k : Nat) (h : k < (MutexSf l).length) : (MutexSf l)[k] = Mutex.fr (l[k]'(by simpa using h)) := by simp [MutexSf]
@[simp] theorem MutexSf_take (l : List Mutex) : List.take l.length (MutexSf l) = MutexSf l := by
  have := List.take_length (l := MutexSf l)
  rwa [MutexSf_length] at this
@[simp] theorem MutexSf_nil : MutexSf [] = [] := rfl
@[simp] theorem MutexSf_ren (l : List Mutex) (ids : List Nat) (d : Nat) : (MutexSf l).map (List.map (renN ids (d + 1))) = MutexSf l := by
  simp [MutexSf, Function.comp_def]
@[simp] theorem MutexSf_low (n : Nat) (l : List Mutex) : lowEs n (MutexSf l) = true := by
  simp [lowEs, MutexSf]
@[simp] theorem MutexSf_lowT (n : Nat) (l : List Mutex) (k : Nat) : lowEs n ((MutexSf l).take k) = true := lowEs_take (MutexSf_low n l) k
@[simp] theorem MutexSf_view (l : List Mutex) (h : Heap) (d : Nat) : (MutexSf l).map (List.map (viewN h (d + 2))) = MutexSf l := by
  simp [MutexSf, MutexSf, Function.comp_def]
@[simp] def Mutex.ow (d : Mutex) : List AV := [.int .i64 d.owner, .own 1 (IntS d.wait)]
def MutexSo (l : List Mutex) : List (List AV) := l.map Mutex.ow
@[simp] theorem MutexSo_length (l : List Mutex) : (MutexSo l).length = l.length := by simp [MutexSo]
@[simp] theorem MutexSo_get (l : List Mutex) (k : Nat) : (MutexSo l)[k]? = (l[k]?).map Mutex.ow := by simp [MutexSo]
@[simp] theorem MutexSo_getE (l : List Mutex) (k : Nat) (h : k < (MutexSo l).length) : (MutexSo l)[k] = Mutex.ow (l[k]'(by simpa using h)) := by simp [MutexSo]
@[simp] theorem MutexSo_take (l : List Mutex) : List.take l.length (MutexSo l) = MutexSo l := by
  have := List.take_length (l := MutexSo l)
  rwa [MutexSo_length] at this
@[simp] theorem MutexSo_nil : MutexSo [] = [] := rfl
@[simp] theorem MutexSo_ren (l : List Mutex) (ids : List Nat) (d : Nat) : (MutexSo l).map (List.map (renN ids (d + 1))) = MutexSo l := by
  simp [MutexSo, Function.comp_def]
@[simp] theorem MutexSo_low (n : Nat) (l : List Mutex) : lowEs n (MutexSo l) = true := by
  simp [lowEs, MutexSo]
@[simp] theorem MutexSo_lowT (n : Nat) (l : List Mutex) (k : Nat) : lowEs n ((MutexSo l).take k) = true := lowEs_take (MutexSo_low n l) k
@[simp] theorem MutexSo_str (d : Nat) (l : List Mutex) : ((MutexSo l).all fun e => e.all (strN (d + 2))) = true := by
  simp [MutexSo, -strN, strS_int, strS_bool, strS_own]
@[simp] theorem MutexSo_view (l : List Mutex) (h : Heap) (d : Nat) : (MutexSo l).map (List.map (viewN h (d + 2))) = MutexSf l := by
  simp [MutexSo, MutexSf, Function.comp_def]
def Mutex.ok (d : Mutex) : Prop := d.wait.length ≤ 1048576
def Mutex.fit (d : Mutex) : Prop := d.wait.length ≤ maxLen
def Mutex.sz (d : Mutex) : Nat := d.wait.length
structure Gor where
  proc : Int
  pc : Int
  regs : List Int
  state : Int
  trace : List Item
deriving DecidableEq
@[simp] def Gor.fr (d : Gor) : List AV := [.int .i64 d.proc, .int .i64 d.pc, .fz (IntS d.regs), .int .i64 d.state, .fz (ItemS d.trace)]
def GorSf (l : List Gor) : List (List AV) := l.map Gor.fr
@[simp] theorem GorSf_length (l : List Gor) : (GorSf l).length = l.length := by simp [GorSf]
@[simp] theorem GorSf_get (l : List Gor) (k : Nat) : (GorSf l)[k]? = (l[k]?).map Gor.fr := by simp [GorSf]
@[simp] theorem GorSf_getE (l : List Gor) (k : Nat) (h : k < (GorSf l).length) : (GorSf l)[k] = Gor.fr (l[k]'(by simpa using h)) := by simp [GorSf]
@[simp] theorem GorSf_take (l : List Gor) : List.take l.length (GorSf l) = GorSf l := by
  have := List.take_length (l := GorSf l)
  rwa [GorSf_length] at this
@[simp] theorem GorSf_nil : GorSf [] = [] := rfl
@[simp] theorem GorSf_ren (l : List Gor) (ids : List Nat) (d : Nat) : (GorSf l).map (List.map (renN ids (d + 1))) = GorSf l := by
  simp [GorSf, Function.comp_def]
@[simp] theorem GorSf_low (n : Nat) (l : List Gor) : lowEs n (GorSf l) = true := by
  simp [lowEs, GorSf]
@[simp] theorem GorSf_lowT (n : Nat) (l : List Gor) (k : Nat) : lowEs n ((GorSf l).take k) = true := lowEs_take (GorSf_low n l) k
@[simp] theorem GorSf_view (l : List Gor) (h : Heap) (d : Nat) : (GorSf l).map (List.map (viewN h (d + 2))) = GorSf l := by
  simp [GorSf, GorSf, Function.comp_def]
@[simp] def Gor.ow (d : Gor) : List AV := [.int .i64 d.proc, .int .i64 d.pc, .own 1 (IntS d.regs), .int .i64 d.state, .own 4 (ItemS d.trace)]
def GorSo (l : List Gor) : List (List AV) := l.map Gor.ow
@[simp] theorem GorSo_length (l : List Gor) : (GorSo l).length = l.length := by simp [GorSo]
@[simp] theorem GorSo_get (l : List Gor) (k : Nat) : (GorSo l)[k]? = (l[k]?).map Gor.ow := by simp [GorSo]
@[simp] theorem GorSo_getE (l : List Gor) (k : Nat) (h : k < (GorSo l).length) : (GorSo l)[k] = Gor.ow (l[k]'(by simpa using h)) := by simp [GorSo]
@[simp] theorem GorSo_take (l : List Gor) : List.take l.length (GorSo l) = GorSo l := by
  have := List.take_length (l := GorSo l)
  rwa [GorSo_length] at this
@[simp] theorem GorSo_nil : GorSo [] = [] := rfl
@[simp] theorem GorSo_ren (l : List Gor) (ids : List Nat) (d : Nat) : (GorSo l).map (List.map (renN ids (d + 1))) = GorSo l := by
  simp [GorSo, Function.comp_def]
@[simp] theorem GorSo_low (n : Nat) (l : List Gor) : lowEs n (GorSo l) = true := by
  simp [lowEs, GorSo]
@[simp] theorem GorSo_lowT (n : Nat) (l : List Gor) (k : Nat) : lowEs n ((GorSo l).take k) = true := lowEs_take (GorSo_low n l) k
@[simp] theorem GorSo_str (d : Nat) (l : List Gor) : ((GorSo l).all fun e => e.all (strN (d + 2))) = true := by
  simp [GorSo, -strN, strS_int, strS_bool, strS_own]
@[simp] theorem GorSo_view (l : List Gor) (h : Heap) (d : Nat) : (GorSo l).map (List.map (viewN h (d + 2))) = GorSf l := by
  simp [GorSo, GorSf, Function.comp_def]
def Gor.ok (d : Gor) : Prop := d.regs.length ≤ 1048576 ∧ d.trace.length ≤ 1048576
def Gor.fit (d : Gor) : Prop := d.regs.length ≤ maxLen ∧ d.trace.length ≤ maxLen
def Gor.sz (d : Gor) : Nat := d.regs.length + d.trace.length
structure Select where
  cases : List Case
  els : Int
deriving DecidableEq
@[simp] def Select.fr (d : Select) : List AV := [.fz (CaseS d.cases), .int .i64 d.els]
def SelectSf (l : List Select) : List (List AV) := l.map Select.fr
@[simp] theorem SelectSf_length (l : List Select) : (SelectSf l).length = l.length := by simp [SelectSf]
@[simp] theorem SelectSf_get (l : List Select) (k : Nat) : (SelectSf l)[k]? = (l[k]?).map Select.fr := by simp [SelectSf]
@[simp] theorem SelectSf_getE (l : List Select) (k : Nat) (h : k < (SelectSf l).length) : (SelectSf l)[k] = Select.fr (l[k]'(by simpa using h)) := by simp [SelectSf]
@[simp] theorem SelectSf_take (l : List Select) : List.take l.length (SelectSf l) = SelectSf l := by
  have := List.take_length (l := SelectSf l)
  rwa [SelectSf_length] at this
@[simp] theorem SelectSf_nil : SelectSf [] = [] := rfl
@[simp] theorem SelectSf_ren (l : List Select) (ids : List Nat) (d : Nat) : (SelectSf l).map (List.map (renN ids (d + 1))) = SelectSf l := by
  simp [SelectSf, Function.comp_def]
@[simp] theorem SelectSf_low (n : Nat) (l : List Select) : lowEs n (SelectSf l) = true := by
  simp [lowEs, SelectSf]
@[simp] theorem SelectSf_lowT (n : Nat) (l : List Select) (k : Nat) : lowEs n ((SelectSf l).take k) = true := lowEs_take (SelectSf_low n l) k
@[simp] theorem SelectSf_view (l : List Select) (h : Heap) (d : Nat) : (SelectSf l).map (List.map (viewN h (d + 2))) = SelectSf l := by
  simp [SelectSf, SelectSf, Function.comp_def]
@[simp] def Select.ow (d : Select) : List AV := [.own 5 (CaseS d.cases), .int .i64 d.els]
def SelectSo (l : List Select) : List (List AV) := l.map Select.ow
@[simp] theorem SelectSo_length (l : List Select) : (SelectSo l).length = l.length := by simp [SelectSo]
@[simp] theorem SelectSo_get (l : List Select) (k : Nat) : (SelectSo l)[k]? = (l[k]?).map Select.ow := by simp [SelectSo]
@[simp] theorem SelectSo_getE (l : List Select) (k : Nat) (h : k < (SelectSo l).length) : (SelectSo l)[k] = Select.ow (l[k]'(by simpa using h)) := by simp [SelectSo]
@[simp] theorem SelectSo_take (l : List Select) : List.take l.length (SelectSo l) = SelectSo l := by
  have := List.take_length (l := SelectSo l)
  rwa [SelectSo_length] at this
@[simp] theorem SelectSo_nil : SelectSo [] = [] := rfl
@[simp] theorem SelectSo_ren (l : List Select) (ids : List Nat) (d : Nat) : (SelectSo l).map (List.map (renN ids (d + 1))) = SelectSo l := by
  simp [SelectSo, Function.comp_def]
@[simp] theorem SelectSo_low (n : Nat) (l : List Select) : lowEs n (SelectSo l) = true := by
  simp [lowEs, SelectSo]
@[simp] theorem SelectSo_lowT (n : Nat) (l : List Select) (k : Nat) : lowEs n ((SelectSo l).take k) = true := lowEs_take (SelectSo_low n l) k
@[simp] theorem SelectSo_str (d : Nat) (l : List Select) : ((SelectSo l).all fun e => e.all (strN (d + 2))) = true := by
  simp [SelectSo, -strN, strS_int, strS_bool, strS_own]
@[simp] theorem SelectSo_view (l : List Select) (h : Heap) (d : Nat) : (SelectSo l).map (List.map (viewN h (d + 2))) = SelectSf l := by
  simp [SelectSo, SelectSf, Function.comp_def]
def Select.ok (d : Select) : Prop := d.cases.length ≤ 1048576
def Select.fit (d : Select) : Prop := d.cases.length ≤ maxLen
def Select.sz (d : Select) : Nat := d.cases.length
structure Proc where
  code : List Instr
deriving DecidableEq
@[simp] def Proc.fr (d : Proc) : List AV := [.fz (InstrS d.code)]
def ProcSf (l : List Proc) : List (List AV) := l.map Proc.fr
@[simp] theorem ProcSf_length (l : List Proc) : (ProcSf l).length = l.length := by simp [ProcSf]
@[simp] theorem ProcSf_get (l : List Proc) (k : Nat) : (ProcSf l)[k]? = (l[k]?).map Proc.fr := by simp [ProcSf]
@[simp] theorem ProcSf_getE (l : List Proc) (k : Nat) (h : k < (ProcSf l).length) : (ProcSf l)[k] = Proc.fr (l[k]'(by simpa using h)) := by simp [ProcSf]
@[simp] theorem ProcSf_take (l : List Proc) : List.take l.length (ProcSf l) = ProcSf l := by
  have := List.take_length (l := ProcSf l)
  rwa [ProcSf_length] at this
@[simp] theorem ProcSf_nil : ProcSf [] = [] := rfl
@[simp] theorem ProcSf_ren (l : List Proc) (ids : List Nat) (d : Nat) : (ProcSf l).map (List.map (renN ids (d + 1))) = ProcSf l := by
  simp [ProcSf, Function.comp_def]
@[simp] theorem ProcSf_low (n : Nat) (l : List Proc) : lowEs n (ProcSf l) = true := by
  simp [lowEs, ProcSf]
@[simp] theorem ProcSf_lowT (n : Nat) (l : List Proc) (k : Nat) : lowEs n ((ProcSf l).take k) = true := lowEs_take (ProcSf_low n l) k
@[simp] theorem ProcSf_view (l : List Proc) (h : Heap) (d : Nat) : (ProcSf l).map (List.map (viewN h (d + 2))) = ProcSf l := by
  simp [ProcSf, ProcSf, Function.comp_def]
@[simp] def Proc.ow (d : Proc) : List AV := [.own 4 (InstrS d.code)]
def ProcSo (l : List Proc) : List (List AV) := l.map Proc.ow
@[simp] theorem ProcSo_length (l : List Proc) : (ProcSo l).length = l.length := by simp [ProcSo]
@[simp] theorem ProcSo_get (l : List Proc) (k : Nat) : (ProcSo l)[k]? = (l[k]?).map Proc.ow := by simp [ProcSo]
@[simp] theorem ProcSo_getE (l : List Proc) (k : Nat) (h : k < (ProcSo l).length) : (ProcSo l)[k] = Proc.ow (l[k]'(by simpa using h)) := by simp [ProcSo]
@[simp] theorem ProcSo_take (l : List Proc) : List.take l.length (ProcSo l) = ProcSo l := by
  have := List.take_length (l := ProcSo l)
  rwa [ProcSo_length] at this
@[simp] theorem ProcSo_nil : ProcSo [] = [] := rfl
@[simp] theorem ProcSo_ren (l : List Proc) (ids : List Nat) (d : Nat) : (ProcSo l).map (List.map (renN ids (d + 1))) = ProcSo l := by
  simp [ProcSo, Function.comp_def]
@[simp] theorem ProcSo_low (n : Nat) (l : List Proc) : lowEs n (ProcSo l) = true := by
  simp [lowEs, ProcSo]
@[simp] theorem ProcSo_lowT (n : Nat) (l : List Proc) (k : Nat) : lowEs n ((ProcSo l).take k) = true := lowEs_take (ProcSo_low n l) k
@[simp] theorem ProcSo_str (d : Nat) (l : List Proc) : ((ProcSo l).all fun e => e.all (strN (d + 2))) = true := by
  simp [ProcSo, -strN, strS_int, strS_bool, strS_own]
@[simp] theorem ProcSo_view (l : List Proc) (h : Heap) (d : Nat) : (ProcSo l).map (List.map (viewN h (d + 2))) = ProcSf l := by
  simp [ProcSo, ProcSf, Function.comp_def]
def Proc.ok (d : Proc) : Prop := d.code.length ≤ 1048576
def Proc.fit (d : Proc) : Prop := d.code.length ≤ maxLen
def Proc.sz (d : Proc) : Nat := d.code.length
structure Eng where
  gs : List Gor
  chans : List Chan
  mus : List Mutex
@[simp] def Eng.fr (d : Eng) : List AV := [.fz (GorSf d.gs), .fz (ChanSf d.chans), .fz (MutexSf d.mus)]
@[simp] def Eng.ow (d : Eng) : List AV := [.own 5 (GorSo d.gs), .own 5 (ChanSo d.chans), .own 2 (MutexSo d.mus)]
def Eng.ok (d : Eng) : Prop := d.gs.length ≤ 1048576 ∧ (∀ x ∈ d.gs, x.ok) ∧ d.chans.length ≤ 1048576 ∧ (∀ x ∈ d.chans, x.ok) ∧ d.mus.length ≤ 1048576 ∧ (∀ x ∈ d.mus, x.ok)
def Eng.fit (d : Eng) : Prop := d.gs.length ≤ maxLen ∧ (∀ x ∈ d.gs, x.fit) ∧ d.chans.length ≤ maxLen ∧ (∀ x ∈ d.chans, x.fit) ∧ d.mus.length ≤ maxLen ∧ (∀ x ∈ d.mus, x.fit)
def Eng.sz (d : Eng) : Nat := szL Gor.sz d.gs + szL Chan.sz d.chans + szL Mutex.sz d.mus
structure Prog where
  caps : List Int
  mus : Int
  sels : List Select
  procs : List Proc
@[simp] def Prog.fr (d : Prog) : List AV := [.fz (IntS d.caps), .int .i64 d.mus, .fz (SelectSf d.sels), .fz (ProcSf d.procs)]
@[simp] def Prog.ow (d : Prog) : List AV := [.own 1 (IntS d.caps), .int .i64 d.mus, .own 2 (SelectSo d.sels), .own 1 (ProcSo d.procs)]
def Prog.ok (d : Prog) : Prop := d.caps.length ≤ 1048576 ∧ d.sels.length ≤ 1048576 ∧ (∀ x ∈ d.sels, x.ok) ∧ d.procs.length ≤ 1048576 ∧ (∀ x ∈ d.procs, x.ok)
def Prog.fit (d : Prog) : Prop := d.caps.length ≤ maxLen ∧ d.sels.length ≤ maxLen ∧ (∀ x ∈ d.sels, x.fit) ∧ d.procs.length ≤ maxLen ∧ (∀ x ∈ d.procs, x.fit)
def Prog.sz (d : Prog) : Nat := d.caps.length + szL Select.sz d.sels + szL Proc.sz d.procs
end HT
