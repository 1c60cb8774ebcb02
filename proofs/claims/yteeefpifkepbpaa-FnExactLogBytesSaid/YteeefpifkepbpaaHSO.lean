import Derived.Test.YteeefpifkepbpaaHSN
/-
  My own texts (road H): HSO.
-/
set_option linter.unusedSimpArgs false
namespace HS
open Go Go.Proofs HK
def rdC : Option (Deed × Nat) → Deed
  | some (d, _) => d
  | none => ⟨0, 0, 0, 0⟩
def rdP : Option (Deed × Nat) → Nat
  | some (_, p) => p
  | none => 0
end HS
