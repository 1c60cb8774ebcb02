import Derived.Test.YtdhoappjadnhcaaGreatHCY5
import Derived.Test.YtdhoappjadnhcaaGreatHCT2E
import Derived.Test.YtdhoappjadnhcaaGreatHCT4E
import Derived.Test.YtdhoappjadnhcaaGreatG5
import Derived.Test.YtdhoappjadnhcaaGreatG4
import Derived.Test.YtdhoappjadnhcaaGreatG13
/-
  My own texts (road H): HCY6.
-/
set_option maxHeartbeats 8000000
set_option linter.unusedSimpArgs false
set_option linter.unusedVariables false
namespace HT
open Go Go.Proofs HK
end HT
