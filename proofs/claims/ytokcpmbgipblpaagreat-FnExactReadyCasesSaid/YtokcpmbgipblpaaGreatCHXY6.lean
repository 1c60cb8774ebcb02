import Derived.Test.YtokcpmbgipblpaaGreatCHXY5
import Derived.Test.YtokcpmbgipblpaaGreatCHXT2E
import Derived.Test.YtokcpmbgipblpaaGreatCHXT4E
import Derived.Test.YtokcpmbgipblpaaGreatCG5
import Derived.Test.YtokcpmbgipblpaaGreatCG4
import Derived.Test.YtokcpmbgipblpaaGreatCG13
/-
  My own texts (road H): HXY6.
-/
set_option linter.unusedSimpArgs false
set_option linter.unusedVariables false
namespace HT
open Go Go.Proofs HK
end HT
