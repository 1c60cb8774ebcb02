import Derived.Test.YteeefpifkepbpaaHST
/-
  My own texts (road H): HSU.
-/
set_option linter.unusedSimpArgs false
namespace HS
open Go Go.Proofs HK
def seqF (f : List Int) : Nat := getI ((f.drop 1).take 3)
def cntF (f : List Int) : Nat := getI ((f.drop 4).take 3)
def datF (f : List Int) : List Int := (f.drop 15).take (cntF f)
def headF (f : List Int) : Bool := decide (f[0]? = some 82) && decide (getI ((f.drop 7).take 4) = crc (f.take 7)) && decide (seqF f ≤ 100000) && decide (cntF f ≤ 4000)
def frC (f : List Int) : Nat := if f.length < 11 then 2 else if headF f = false then 3 else if f.length < 15 + cntF f then 4 else if getI ((f.drop 11).take 4) = crc (datF f) then 0 else 5
def frA (f : List Int) (N : Nat) : AV := if frC f = 0 then .tup [.int .i64 (seqF f), .own 1 (YS (datF f)), .int .i64 ((N + 15 + cntF f : Nat) : Int), .int .i64 0] else .tup [.int .i64 0, .nil, .int .i64 0, .int .i64 (frC f)]
@[simp] theorem YS_tail (l : List Int) : (YS l).tail = YS l.tail := by cases l <;> rfl
theorem crc_lt {l : List Int} (hb : ∀ x ∈ l, isB x) : crc l < 2 ^ 32 := Nat.xor_lt_two_pow (crcL_lt (by omega) hb) (by omega)
end HS
