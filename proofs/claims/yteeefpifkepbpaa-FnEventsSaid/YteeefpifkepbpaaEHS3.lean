import Derived.Test.YteeefpifkepbpaaEHS2
/-
  My own texts (road H): HS3.
-/
set_option linter.unusedSimpArgs false
namespace HS
open Go Go.Proofs HK
def mkY (s : Int) (k : Nat) : List Int := (List.range k).map fun i : Nat => IntKind.u8.wrap (s + (i : Int))
@[simp] theorem mkY_length (s : Int) (k : Nat) : (mkY s k).length = k := by simp [mkY]
@[simp] theorem mkY_zero (s : Int) : mkY s 0 = [] := rfl
@[simp] theorem mkY_take (s : Int) (k : Nat) : List.take k (YS (mkY s k)) = YS (mkY s k) := by
  have := List.take_length (l := YS (mkY s k))
  rwa [YS_length, mkY_length] at this
end HS
