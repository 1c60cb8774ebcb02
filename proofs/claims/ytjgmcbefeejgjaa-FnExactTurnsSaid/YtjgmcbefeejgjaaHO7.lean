/-
  My own text (road H): HO7.
-/
import Derived.Test.YtjgmcbefeejgjaaHO5
namespace HO
open Go Go.Proofs HK
theorem rdInt : Reads Try.prog 3 (fun n : Int => [.int .i64 n]) (fun n => (Lit.int .i64 n).wf = true) := Reads.int (by kernel_rfl)
theorem rdBool : Reads Try.prog 4 (fun b : Bool => [.bool b]) (fun _ => True) := Reads.bool (by kernel_rfl)
theorem rdDeed : Reads Try.prog 58 Deed.c (fun _ => True) :=
  (Reads.struct (l := [(3, 0), (3, 1), (3, 2), (3, 3)]) (tot := 4) (by kernel_rfl) (ReadsF.cons 1 (by kernel_rfl) rdInt (ReadsF.cons 1 (by kernel_rfl) rdInt (ReadsF.cons 1 (by kernel_rfl) rdInt (ReadsF.cons 1 (by kernel_rfl) rdInt ReadsF.nil))))).map
    (fun x => ⟨x.1, x.2.1, x.2.2.1, x.2.2.2.1⟩) (by intro _; rfl) (fun _ _ => trivial)
theorem rdDeedS : Reads Try.prog 33 (fun l : List Deed => [.fz (DS l)]) (fun l => l.length ≤ maxLen) :=
  (Reads.slice (e := 58) (by kernel_rfl) rdDeed (Nat.lt_of_lt_of_eq (m := 4) (by omega) (by kernel_rfl))).map id (by intro _; rfl) (fun _ h => h.2)
end HO
