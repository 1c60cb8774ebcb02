import Derived.Test.YtnehpceohjlacaaGreatHZTW
import Derived.Test.YtnehpceohjlacaaGreatG5
import Derived.Test.YtnehpceohjlacaaGreatHK36
/-
  My own texts (road H): HZTX.
-/
set_option linter.unusedSimpArgs false
set_option linter.unusedVariables false
namespace HT
open Go Go.Proofs HK
def nxt (p : Prog) (g : Gor) : Instr × Bool :=
  if gorOk p g && ((burnR p 500 2000 g 0).1.state == 1 && isShared (atI p (burnR p 500 2000 g 0).1).op) then (atI p (burnR p 500 2000 g 0).1, true) else (⟨0, 0, 0, 0⟩, false)
end HT
