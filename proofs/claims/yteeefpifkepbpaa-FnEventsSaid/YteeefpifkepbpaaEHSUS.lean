import Derived.Test.YteeefpifkepbpaaEHSU
/-
  My own texts (road H): HSUS.
-/
set_option linter.unusedSimpArgs false
namespace HS
open Go Go.Proofs HK
end HS
