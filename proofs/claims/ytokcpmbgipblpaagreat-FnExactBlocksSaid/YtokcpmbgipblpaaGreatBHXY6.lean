import Derived.Test.YtokcpmbgipblpaaGreatBHXY5
import Derived.Test.YtokcpmbgipblpaaGreatBHXT2E
import Derived.Test.YtokcpmbgipblpaaGreatBHXT4E
import Derived.Test.YtokcpmbgipblpaaGreatBG5
import Derived.Test.YtokcpmbgipblpaaGreatBG4
import Derived.Test.YtokcpmbgipblpaaGreatBG13
/-
  My own texts (road H): HXY6.
-/
set_option linter.unusedSimpArgs false
set_option linter.unusedVariables false
namespace HT
open Go Go.Proofs HK
end HT
