import Derived.Test.YteeefpifkepbpaaHSB
/-
  My own texts (road H): HSC.
-/
set_option linter.unusedSimpArgs false
namespace HS
open Go Go.Proofs HK
theorem LogC_okI (p : Int) (l : List Deed) : okI (.agg [.int .i64 p, .own 4 (DS l)]) = true := by simp
end HS
