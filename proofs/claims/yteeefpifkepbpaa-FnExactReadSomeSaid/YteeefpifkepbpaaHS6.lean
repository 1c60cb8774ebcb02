/-
  My own text (road H): HS6.
-/
import Derived.Test.YteeefpifkepbpaaHB2
import Derived.Test.YteeefpifkepbpaaHS5
set_option linter.unusedSimpArgs false
namespace HS
open Go Go.Proofs HK
theorem rdInt : Reads Try.prog 3 (fun n : Int => [.int .i64 n]) (fun n => (Lit.int .i64 n).wf = true) := Reads.int (by kernel_rfl)
theorem rdByte : Reads Try.prog 5 (fun n : Int => [.int .u8 n]) (fun n => (Lit.int .u8 n).wf = true) := Reads.int (by kernel_rfl)
theorem rdByteS : Reads Try.prog 22 (fun l : List Int => [.fz (YS l)]) (fun l => (∀ x ∈ l, (Lit.int .u8 x).wf = true) ∧ l.length ≤ maxLen) :=
  (Reads.slice (e := 5) (by kernel_rfl) rdByte (Nat.lt_of_lt_of_eq (m := 1) (by omega) (by kernel_rfl))).map id (by intro _; rfl) (fun _ h => h)
theorem rdDeed : Reads Try.prog 24 Deed.c (fun _ => True) :=
  (Reads.struct (l := [(3, 0), (3, 1), (3, 2), (3, 3)]) (tot := 4) (by kernel_rfl) (ReadsF.cons 1 (by kernel_rfl) rdInt (ReadsF.cons 1 (by kernel_rfl) rdInt (ReadsF.cons 1 (by kernel_rfl) rdInt (ReadsF.cons 1 (by kernel_rfl) rdInt ReadsF.nil))))).map
    (fun x => ⟨x.1, x.2.1, x.2.2.1, x.2.2.2.1⟩) (by intro _; rfl) (fun _ _ => trivial)
theorem rdDeedS : Reads Try.prog 33 (fun l : List Deed => [.fz (DS l)]) (fun l => l.length ≤ maxLen) :=
  (Reads.slice (e := 24) (by kernel_rfl) rdDeed (Nat.lt_of_lt_of_eq (m := 4) (by omega) (by kernel_rfl))).map id (by intro _; rfl) (fun _ h => h.2)
theorem rdLog : Reads Try.prog 42 (fun x : Int × List Deed => [.int .i64 x.1, .fz (DS x.2)]) (fun x => x.2.length ≤ maxLen) :=
  (Reads.struct (l := [(3, 0), (33, 1)]) (tot := 2) (by kernel_rfl) (ReadsF.cons 1 (by kernel_rfl) rdInt (ReadsF.cons 1 (by kernel_rfl) rdDeedS ReadsF.nil))).map
    (fun x => (x.1, x.2.1)) (by intro _; rfl) (fun _ h => h.2.1)
end HS
