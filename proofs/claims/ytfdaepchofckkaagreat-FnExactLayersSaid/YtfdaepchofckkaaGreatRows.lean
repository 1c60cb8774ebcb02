/-
  No cell of these rows narrows 'for every input' (looked for: loops, veiled, ifaces, maps, wideKeys, modest, calm, conditions, laid).
  DERIVED. THE GIVEN ROWS OF THIS SEAT. 4 by the template 'for every input the law returns true; each argument reads behind the call as it read before'; 0 by the template 'total and deterministic' (their statements: YtfdaepchofckkaaGreatTotals.lean).
  GIVEN WITH THE SEED: the statements are not yours to turn. If you find one false, say at which input.
  Laid BY PROGRAM, IN A SANDBOX (cutbox-rows.mjs): the forced cells as the released guide's own fill.sh prints them over the translation 2cb03ba88864da50… (all of the seat's roots in one cut). By AI agents, Wed Nov 11 2026. No macro, syntax, notation, axiom, sorry.
-/
import Derived.Test.YtfdaepchofckkaaGreatChecked
import GoSem.Claim
import GoSem.ClaimJoined
import GoSem.ClaimMapViews
import Derived.JoinedTies
import Derived.KernelRfl
namespace Go.Proofs.YtfdaepchofckkaaGreat
/- THE CELL 'sum', in the pinned program and in every row, IS THE sha256 OF THE DUMP (.gsa) THAT YtfdaepchofckkaaGreatProg.lean LOADS. Nothing in Lean hashes anything: it is a label: what it is worth is what the hold of that sum in a sandbox is worth. -/
noncomputable def Tryz.pinned : Pinned := { name := "ytfdaepchofckkaagreat", sum := "2cb03ba88864da50895d6212782889b95a28010d3e005ca1131fc54986ebc28b", checked := Tryz.checked }
namespace Rows
def none {H : Type} : Left H := { results := [], args := [] }

/-- 'laws.FnExactNeeds': WHATEVER THE INPUT: true; the input reads as it did. -/
def fnExactNeedsSpec : ChangeSpec := { name := "fnExactNeeds", fn := fun _ => fun
  | [d1, d2, d3] => { results := [.lit (.bool true)], args := [d1, d2, d3] }
  | _ => none }
def fnExactNeedsRow : OpenClaim := { program := "ytfdaepchofckkaagreat", sum := "2cb03ba88864da50895d6212782889b95a28010d3e005ca1131fc54986ebc28b", func := "loop.example/g00679/laws.FnExactNeeds", spec := "fnExactNeeds", recurses := true, apart := false }
def FnExactNeedsSaid : Prop := fnExactNeedsRow.holds Tryz.pinned (OpenSpec.ofChange fnExactNeedsSpec)

/-- ITS FALSE NEIGHBOUR: 'it returns false'. Refute it at one input. -/
def fnExactNeedsWrong : ChangeSpec := { name := "fnExactNeeds", fn := fun _ => fun
  | [d1, d2, d3] => { results := [.lit (.bool false)], args := [d1, d2, d3] }
  | _ => none }
def FnExactNeedsWrongFalsely : Prop := fnExactNeedsRow.holds Tryz.pinned (OpenSpec.ofChange fnExactNeedsWrong)

/-- 'laws.FnExactSwap': WHATEVER THE INPUT: true; the input reads as it did. -/
def fnExactSwapSpec : ChangeSpec := { name := "fnExactSwap", fn := fun _ => fun
  | [d1, d2, d3] => { results := [.lit (.bool true)], args := [d1, d2, d3] }
  | _ => none }
def fnExactSwapRow : OpenClaim := { program := "ytfdaepchofckkaagreat", sum := "2cb03ba88864da50895d6212782889b95a28010d3e005ca1131fc54986ebc28b", func := "loop.example/g00679/laws.FnExactSwap", spec := "fnExactSwap", unfollowed := true, recurses := true, apart := false }
def FnExactSwapSaid : Prop := fnExactSwapRow.holds Tryz.pinned (OpenSpec.ofChange fnExactSwapSpec)

/-- ITS FALSE NEIGHBOUR: 'it returns false'. Refute it at one input. -/
def fnExactSwapWrong : ChangeSpec := { name := "fnExactSwap", fn := fun _ => fun
  | [d1, d2, d3] => { results := [.lit (.bool false)], args := [d1, d2, d3] }
  | _ => none }
def FnExactSwapWrongFalsely : Prop := fnExactSwapRow.holds Tryz.pinned (OpenSpec.ofChange fnExactSwapWrong)

/-- 'laws.FnExactLayers': WHATEVER THE INPUT: true; the input reads as it did. -/
def fnExactLayersSpec : ChangeSpec := { name := "fnExactLayers", fn := fun _ => fun
  | [d1, d2] => { results := [.lit (.bool true)], args := [d1, d2] }
  | _ => none }
def fnExactLayersRow : OpenClaim := { program := "ytfdaepchofckkaagreat", sum := "2cb03ba88864da50895d6212782889b95a28010d3e005ca1131fc54986ebc28b", func := "loop.example/g00679/laws.FnExactLayers", spec := "fnExactLayers", recurses := true, apart := false }
def FnExactLayersSaid : Prop := fnExactLayersRow.holds Tryz.pinned (OpenSpec.ofChange fnExactLayersSpec)

/-- ITS FALSE NEIGHBOUR: 'it returns false'. Refute it at one input. -/
def fnExactLayersWrong : ChangeSpec := { name := "fnExactLayers", fn := fun _ => fun
  | [d1, d2] => { results := [.lit (.bool false)], args := [d1, d2] }
  | _ => none }
def FnExactLayersWrongFalsely : Prop := fnExactLayersRow.holds Tryz.pinned (OpenSpec.ofChange fnExactLayersWrong)

/-- 'laws.FnExactAhead': WHATEVER THE INPUT: true; the input reads as it did. -/
def fnExactAheadSpec : ChangeSpec := { name := "fnExactAhead", fn := fun _ => fun
  | [d1, d2, d3] => { results := [.lit (.bool true)], args := [d1, d2, d3] }
  | _ => none }
def fnExactAheadRow : OpenClaim := { program := "ytfdaepchofckkaagreat", sum := "2cb03ba88864da50895d6212782889b95a28010d3e005ca1131fc54986ebc28b", func := "loop.example/g00679/laws.FnExactAhead", spec := "fnExactAhead", recurses := true, apart := false }
def FnExactAheadSaid : Prop := fnExactAheadRow.holds Tryz.pinned (OpenSpec.ofChange fnExactAheadSpec)

/-- ITS FALSE NEIGHBOUR: 'it returns false'. Refute it at one input. -/
def fnExactAheadWrong : ChangeSpec := { name := "fnExactAhead", fn := fun _ => fun
  | [d1, d2, d3] => { results := [.lit (.bool false)], args := [d1, d2, d3] }
  | _ => none }
def FnExactAheadWrongFalsely : Prop := fnExactAheadRow.holds Tryz.pinned (OpenSpec.ofChange fnExactAheadWrong)

/- THE SECOND FORM. 'bulk': how many values and letters a reading holds, each counted each time it is reached (what is shared counts as often as it is met; a slice's spare places count too). A statement '..UptoSaid' is the law's where the arguments, and the package variables that the reading takes, are together of bulk at most 1048576: NARROWER than '..Said'. Prove '..Said' where nothing that the law and all that it calls make is longer than what came in: it says more and counts as full. Else prove '..UptoSaid'. A law counts once. -/
mutual
def uptoBulk {H : Type} : DataW H → Nat
  | .lit (.string bytes) => bytes.length + 1
  | .lit _ => 1
  | .nil => 1
  | .ptr d => uptoBulk d + 1
  | .slice elems spare => uptoBulkAll elems + uptoBulkAll spare + 1
  | .agg parts => uptoBulkAll parts + 1
  | .iface _ d => uptoBulk d + 1
  | .map entries => uptoBulkEntries entries + 1
  | .held _ => 1
def uptoBulkAll {H : Type} : List (DataW H) → Nat
  | [] => 0
  | d :: r => uptoBulk d + uptoBulkAll r
def uptoBulkEntries {H : Type} : List (Lit × DataW H) → Nat
  | [] => 0
  | x :: r => uptoBulkEntry x + uptoBulkEntries r
def uptoBulkEntry {H : Type} : Lit × DataW H → Nat
  | (.string bytes, d) => bytes.length + uptoBulk d + 1
  | (_, d) => uptoBulk d + 1
 end
def uptoSmall : (H : Type) → List (DataW H) → Bool := fun _ ds => decide (uptoBulkAll ds ≤ 1048576)
def OpenSpec.upto (s : _root_.Go.ChangeSpec) : _root_.Go.OpenSpec := { _root_.Go.OpenSpec.ofChange s with cond := some uptoSmall }

/-- 'laws.FnExactNeeds', WHERE WHAT IT READS IS OF BULK AT MOST 1048576: true; the input reads as it did. -/
def fnExactNeedsUptoRow : OpenClaim := { program := "ytfdaepchofckkaagreat", sum := "2cb03ba88864da50895d6212782889b95a28010d3e005ca1131fc54986ebc28b", func := "loop.example/g00679/laws.FnExactNeeds", spec := "fnExactNeeds", recurses := true, apart := false, narrowed := true }
def FnExactNeedsUptoSaid : Prop := fnExactNeedsUptoRow.holds Tryz.pinned (OpenSpec.upto fnExactNeedsSpec)

/-- 'laws.FnExactSwap', WHERE WHAT IT READS IS OF BULK AT MOST 1048576: true; the input reads as it did. -/
def fnExactSwapUptoRow : OpenClaim := { program := "ytfdaepchofckkaagreat", sum := "2cb03ba88864da50895d6212782889b95a28010d3e005ca1131fc54986ebc28b", func := "loop.example/g00679/laws.FnExactSwap", spec := "fnExactSwap", unfollowed := true, recurses := true, apart := false, narrowed := true }
def FnExactSwapUptoSaid : Prop := fnExactSwapUptoRow.holds Tryz.pinned (OpenSpec.upto fnExactSwapSpec)

/-- 'laws.FnExactLayers', WHERE WHAT IT READS IS OF BULK AT MOST 1048576: true; the input reads as it did. -/
def fnExactLayersUptoRow : OpenClaim := { program := "ytfdaepchofckkaagreat", sum := "2cb03ba88864da50895d6212782889b95a28010d3e005ca1131fc54986ebc28b", func := "loop.example/g00679/laws.FnExactLayers", spec := "fnExactLayers", recurses := true, apart := false, narrowed := true }
def FnExactLayersUptoSaid : Prop := fnExactLayersUptoRow.holds Tryz.pinned (OpenSpec.upto fnExactLayersSpec)

/-- 'laws.FnExactAhead', WHERE WHAT IT READS IS OF BULK AT MOST 1048576: true; the input reads as it did. -/
def fnExactAheadUptoRow : OpenClaim := { program := "ytfdaepchofckkaagreat", sum := "2cb03ba88864da50895d6212782889b95a28010d3e005ca1131fc54986ebc28b", func := "loop.example/g00679/laws.FnExactAhead", spec := "fnExactAhead", recurses := true, apart := false, narrowed := true }
def FnExactAheadUptoSaid : Prop := fnExactAheadUptoRow.holds Tryz.pinned (OpenSpec.upto fnExactAheadSpec)

end Rows
end Go.Proofs.YtfdaepchofckkaaGreat
