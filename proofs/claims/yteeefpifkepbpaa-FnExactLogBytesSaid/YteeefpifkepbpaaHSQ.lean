import Derived.Test.YteeefpifkepbpaaHSO
import Derived.Test.YteeefpifkepbpaaHSA
/-
  My own texts (road H): HSQ.
-/
set_option linter.unusedSimpArgs false
namespace HS
open Go Go.Proofs HK
def readL (b : List Int) : Nat → Nat → Int → Option (List Deed)
  | 0, i, _ => if i < b.length then none else some []
  | f + 1, i, last => if i < b.length then match readE b i last with
    | some (d, p) => (readL b f p d.g).map (d :: ·)
    | none => none
    else some []
def rdS : Option (List Deed) → AV
  | some l => .tup [.own 4 (DS l), .bool (decide (0 < l.length))]
  | none => .tup [.nil, .bool false]
end HS
