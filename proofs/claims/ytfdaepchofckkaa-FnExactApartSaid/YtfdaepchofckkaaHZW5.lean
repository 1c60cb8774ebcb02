import Derived.Test.YtfdaepchofckkaaHZW4
import Derived.Test.YtfdaepchofckkaaHZW3
import Derived.Test.YtfdaepchofckkaaHZV8
/-
  My own texts (road H): HZW5.
-/
set_option linter.unusedSimpArgs false
set_option linter.unusedVariables false
namespace HT
open Go Go.Proofs HK
theorem needs_s (p : Prog) (l : List Deed) (n : Int) (h : p.ok) (hl : l.length ≤ 1048576) : Fn Try.prog 31 [.agg p.fr, .fz (DeedS l), .int .i64 n] (.own 1 (IntS (needs p l n))) := by
  cases hin : inL l n with
  | false =>
    rw [needs_out hin]
    exact needsN_s p l n h hl (.inl hin)
  | true =>
    cases hp : progOk p with
    | true => exact needsY_s p l n h hl hp hin
    | false =>
      rw [needs_no hp]
      exact needsN_s p l n h hl (.inr hp)
end HT
