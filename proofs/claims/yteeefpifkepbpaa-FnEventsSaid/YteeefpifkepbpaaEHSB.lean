import Derived.Test.YteeefpifkepbpaaEHSA
/-
  My own texts (road H): HSB.
-/
set_option linter.unusedSimpArgs false
namespace HS
open Go Go.Proofs HK
def cutN (n : Int) (k : Nat) : Nat := (max 0 (min n k)).toNat
@[simp] theorem DS_takeT (l : List Deed) (k : Nat) : List.take (min k l.length) (DS (l.take k)) = DS (l.take k) := by
  rw [← List.length_take]; exact DS_take _
end HS
