import Derived.Test.YteeefpifkepbpaaEHS3
/-
  My own texts (road H): HSA.
-/
set_option linter.unusedSimpArgs false
namespace HS
open Go Go.Proofs HK
def mkDd (s : Int) (i : Nat) : Deed := ⟨s + 4 * (i : Int), s + 4 * (i : Int) + 1, s + 4 * (i : Int) + 1 + 1, s + 4 * (i : Int) + 1 + 1 + 1⟩
def mkD (s : Int) (k : Nat) : List Deed := (List.range k).map (mkDd s)
@[simp] theorem mkD_length (s : Int) (k : Nat) : (mkD s k).length = k := by simp [mkD]
@[simp] theorem mkD_zero (s : Int) : mkD s 0 = [] := rfl
@[simp] theorem mkD_take (s : Int) (k : Nat) : List.take k (DS (mkD s k)) = DS (mkD s k) := by
  have := List.take_length (l := DS (mkD s k))
  rwa [DS_length, mkD_length] at this
end HS
