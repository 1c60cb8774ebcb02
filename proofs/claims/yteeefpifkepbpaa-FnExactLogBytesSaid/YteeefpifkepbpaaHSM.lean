import Derived.Test.YteeefpifkepbpaaHSL
/-
  My own texts (road H): HSM.
-/
set_option linter.unusedSimpArgs false
namespace HS
open Go Go.Proofs HK
@[simp] theorem bytC_YS : ∀ (l : List Int), bytC (YS l) = some l
  | [] => rfl
  | x :: l => by
    have h := bytC_YS l
    unfold YS at h ⊢; simp [bytC, h]
@[simp] theorem bytC_nil : bytC [] = some [] := rfl
def nv : Option (Nat × Nat) → Nat
  | some (n, _) => n
  | none => 0
def pv : Option (Nat × Nat) → Nat
  | some (_, p) => p
  | none => 0
def unzig (n : Nat) : Int := if n % 2 = 1 then -(((n + 1) / 2 : Nat) : Int) else ((n / 2 : Nat) : Int)
def getZA (o : Option (Nat × Nat)) : AV := .tup [.int .i64 (unzig (nv o)), .int .i64 (pv o), .bool o.isSome]
end HS
