import Derived.Test.YteeefpifkepbpaaHSK
/-
  My own texts (road H): HSL.
-/
set_option linter.unusedSimpArgs false
namespace HS
open Go Go.Proofs HK
end HS
