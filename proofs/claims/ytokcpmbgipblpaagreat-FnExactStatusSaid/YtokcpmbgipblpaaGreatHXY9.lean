import Derived.Test.YtokcpmbgipblpaaGreatHXY8
/-
  My own texts (road H): HXY9.
-/
set_option linter.unusedSimpArgs false
set_option linter.unusedVariables false
namespace HT
open Go Go.Proofs HK
end HT
