import Derived.Test.YtjalahhkhcmjaaaGreatHMY5
import Derived.Test.YtjalahhkhcmjaaaGreatHMT2E
import Derived.Test.YtjalahhkhcmjaaaGreatHMT4E
import Derived.Test.YtjalahhkhcmjaaaGreatG5
import Derived.Test.YtjalahhkhcmjaaaGreatG4
import Derived.Test.YtjalahhkhcmjaaaGreatG13
/-
  My own texts (road H): HMY6.
-/
set_option linter.unusedSimpArgs false
set_option linter.unusedVariables false
namespace HT
open Go Go.Proofs HK
end HT
