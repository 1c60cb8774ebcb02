import Derived.Test.YtnehpceohjlacaaG5
/-
  My own texts (road H): HT7G.
-/
set_option linter.unusedSimpArgs false
set_option linter.unusedVariables false
namespace HT
open Go Go.Proofs HK
theorem rdGor : Reads Try.prog 29 Gor.fr (fun x => x.fit) :=
  (Reads.struct (l := [(3, 0), (3, 1), (22, 2), (3, 3), (27, 4)]) (tot := 5) (by kernel_rfl) (ReadsF.cons 1 (by kernel_rfl) rdInt (ReadsF.cons 1 (by kernel_rfl) rdInt (ReadsF.cons 1 (by kernel_rfl) rdIntS (ReadsF.cons 1 (by kernel_rfl) rdInt (ReadsF.cons 1 (by kernel_rfl) rdItemS ReadsF.nil)))))).map
    (fun x => ⟨x.1, x.2.1, x.2.2.1, x.2.2.2.1, x.2.2.2.2.1⟩) (by intro _; rfl) (fun _ h => ⟨h.2.2.1, h.2.2.2.2.1⟩)
end HT
