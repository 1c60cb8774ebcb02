import Derived.Test.YteeefpifkepbpaaG3
import Derived.Test.YteeefpifkepbpaaHS5
/-
  My own texts (road H): HS6.
-/
set_option linter.unusedSimpArgs false
namespace HS
open Go Go.Proofs HK
theorem rdInt : Reads Try.prog 3 (fun n : Int => [.int .i64 n]) (fun n => (Lit.int .i64 n).wf = true) := Reads.int (by kernel_rfl)
theorem rdDeed : Reads Try.prog 24 Deed.c (fun _ => True) :=
  (Reads.struct (l := [(3, 0), (3, 1), (3, 2), (3, 3)]) (tot := 4) (by kernel_rfl) (ReadsF.cons 1 (by kernel_rfl) rdInt (ReadsF.cons 1 (by kernel_rfl) rdInt (ReadsF.cons 1 (by kernel_rfl) rdInt (ReadsF.cons 1 (by kernel_rfl) rdInt ReadsF.nil))))).map
    (fun x => ⟨x.1, x.2.1, x.2.2.1, x.2.2.2.1⟩) (by intro _; rfl) (fun _ _ => trivial)
theorem rdDeedS : Reads Try.prog 33 (fun l : List Deed => [.fz (DS l)]) (fun l => l.length ≤ maxLen) :=
  (Reads.slice (e := 24) (by kernel_rfl) rdDeed (Nat.lt_of_lt_of_eq (m := 4) (by omega) (by kernel_rfl))).map id (by intro _; rfl) (fun _ h => h.2)
theorem rdLog : Reads Try.prog 42 (fun x : Int × List Deed => [.int .i64 x.1, .fz (DS x.2)]) (fun x => x.2.length ≤ maxLen) :=
  (Reads.struct (l := [(3, 0), (33, 1)]) (tot := 2) (by kernel_rfl) (ReadsF.cons 1 (by kernel_rfl) rdInt (ReadsF.cons 1 (by kernel_rfl) rdDeedS ReadsF.nil))).map
    (fun x => (x.1, x.2.1)) (by intro _; rfl) (fun _ h => h.2.1)
end HS
