import Derived.Test.YteeefpifkepbpaaHSB
/-
  My own texts (road H): HSC.
-/
set_option linter.unusedSimpArgs false
namespace HS
open Go Go.Proofs HK
end HS
