import Derived.Test.YtfdaepchofckkaaHZV7
import Derived.Test.YtfdaepchofckkaaHZT7G
/-
  My own texts (road H): HZV8.
-/
set_option linter.unusedSimpArgs false
set_option linter.unusedVariables false
namespace HT
open Go Go.Proofs HK
theorem kin_lenS {p : Prog} {ch : Int} (hp : progOk p = true) : (kin p ch).length ≤ 1048576 := by
  have h := kin_len (ch := ch) hp
  simp only [progOk, headOk, Bool.and_eq_true, decide_eq_true_eq] at hp
  omega
theorem kin_out {p : Prog} {ch : Int} (hin : inCh p ch = false) : kin p ch = [] := by
  unfold kin
  rw [hin]; rfl
end HT
