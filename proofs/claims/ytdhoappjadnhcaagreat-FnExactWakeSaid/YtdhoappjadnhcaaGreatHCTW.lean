import Derived.Test.YtdhoappjadnhcaaGreatG15
/-
  My own texts (road H): HCTW.
-/
set_option maxHeartbeats 8000000
set_option linter.unusedSimpArgs false
set_option linter.unusedVariables false
namespace HT
open Go Go.Proofs HK
end HT
