import Derived.Test.YteeefpifkepbpaaEG3
import Derived.Test.YteeefpifkepbpaaEHS5
/-
  My own texts (road H): HS6.
-/
set_option linter.unusedSimpArgs false
namespace HS
open Go Go.Proofs HK
theorem rdByte : Reads Try.prog 5 (fun n : Int => [.int .u8 n]) (fun n => (Lit.int .u8 n).wf = true) := Reads.int (by kernel_rfl)
theorem rdByteS : Reads Try.prog 22 (fun l : List Int => [.fz (YS l)]) (fun l => (∀ x ∈ l, (Lit.int .u8 x).wf = true) ∧ l.length ≤ maxLen) :=
  (Reads.slice (e := 5) (by kernel_rfl) rdByte (Nat.lt_of_lt_of_eq (m := 1) (by omega) (by kernel_rfl))).map id (by intro _; rfl) (fun _ h => h)
end HS
