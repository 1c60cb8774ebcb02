/-
  My own text (road H): HP5.
-/
import Derived.Test.YtjgmcbefeejgjaaHP4
namespace HO
open Go Go.Proofs HK
theorem rdBoolS : Reads Try.prog 42 (fun l : List Bool => [.fz (BS l)]) (fun _ => True) :=
  (Reads.slice (e := 4) (by kernel_rfl) rdBool (Nat.lt_of_lt_of_eq (m := 1) (by omega) (by kernel_rfl))).map id (by intro _; rfl) (fun _ _ => trivial)
end HO
