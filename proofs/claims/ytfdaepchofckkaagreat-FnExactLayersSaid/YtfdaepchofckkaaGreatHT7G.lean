import Derived.Test.YtfdaepchofckkaaGreatG5
/-
  My own texts (road H): HT7G.
-/
set_option linter.unusedSimpArgs false
set_option linter.unusedVariables false
namespace HT
open Go Go.Proofs HK
end HT
