import Derived.Test.YtfdaepchofckkaaG5
/-
  My own texts (road H): HZT7G.
-/
set_option linter.unusedSimpArgs false
set_option linter.unusedVariables false
namespace HT
open Go Go.Proofs HK
end HT
