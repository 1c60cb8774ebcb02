import Derived.Test.YtdhoappjadnhcaaGreatHCTW
import Derived.Test.YtdhoappjadnhcaaGreatG5
import Derived.Test.YtdhoappjadnhcaaGreatHK36
/-
  My own texts (road H): HCTX.
-/
set_option maxHeartbeats 8000000
set_option linter.unusedSimpArgs false
set_option linter.unusedVariables false
namespace HT
open Go Go.Proofs HK
def nxt (p : Prog) (g : Gor) : Instr × Bool :=
  if gorOk p g && ((burnR p 500 2000 g 0).1.state == 1 && isShared (atI p (burnR p 500 2000 g 0).1).op) then (atI p (burnR p 500 2000 g 0).1, true) else (⟨0, 0, 0, 0⟩, false)
end HT
