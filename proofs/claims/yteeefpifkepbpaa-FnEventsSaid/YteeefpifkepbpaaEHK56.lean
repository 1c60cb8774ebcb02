import Derived.Test.YteeefpifkepbpaaEHK51
import Derived.Test.YteeefpifkepbpaaEHK55
/-
  My own texts (road H): HK56.
-/
namespace HK
open Go
section
variable {P : Program} {N : Sz} {Q : Exit → St → Prop} {st : St}
theorem SF.regionCK {id : Nat} {l : List Oper} {y : Code} (h : ∀ K : St → Prop, (∀ st, SF P N y Q st → K st) → runC P N (l.map (·.dst)) l st K) : SF P N (.seq (.region id l.toArray false) y) Q st :=
  SF.seq (SW.regionC (Q := Ex.then (SF P N y Q) Q) (h _ fun _ h => h))
end
end HK
