/-
  My own text (road H): HP8.
-/
import Derived.Test.YtjgmcbefeejgjaaHP7
namespace HO
open Go Go.Proofs HK
theorem rdLog : Reads Try.prog 48 (fun x : Int × List Deed => [.int .i64 x.1, .fz (DS x.2)]) (fun x => x.2.length ≤ maxLen) :=
  (Reads.struct (l := [(3, 0), (33, 1)]) (tot := 2) (by kernel_rfl) (ReadsF.cons 1 (by kernel_rfl) rdInt (ReadsF.cons 1 (by kernel_rfl) rdDeedS ReadsF.nil))).map
    (fun x => (x.1, x.2.1)) (by intro _; rfl) (fun _ h => h.2.1)
end HO
