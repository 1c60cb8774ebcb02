/-
  No cell of these rows narrows 'for every input' (looked for: loops, veiled, ifaces, maps, wideKeys, modest, calm, conditions, laid).
  DERIVED. THE GIVEN ROWS OF THIS SEAT. 5 by the template 'for every input the law returns true; each argument reads behind the call as it read before'; 0 by the template 'total and deterministic' (their statements: YtnehpceohjlacaaTotals.lean).
  GIVEN WITH THE SEED: the statements are not yours to turn. If you find one false, say at which input.
  Laid BY PROGRAM, IN A SANDBOX (cutbox-rows.mjs): the forced cells as the released guide's own fill.sh prints them over the translation e50068a826962cd9… (all of the seat's roots in one cut). By AI agents, Wed Nov 11 2026. No macro, syntax, notation, axiom, sorry.
-/
import Derived.Test.YtnehpceohjlacaaChecked
import GoSem.Claim
import GoSem.ClaimJoined
import GoSem.ClaimMapViews
import Derived.JoinedTies
import Derived.KernelRfl
namespace Go.Proofs.Ytnehpceohjlacaa
/- THE CELL 'sum', in the pinned program and in every row, IS THE sha256 OF THE DUMP (.gsa) THAT YtnehpceohjlacaaProg.lean LOADS. Nothing in Lean hashes anything: it is a label: what it is worth is what the hold of that sum in a sandbox is worth. -/
noncomputable def Try.pinned : Pinned := { name := "ytnehpceohjlacaa", sum := "e50068a826962cd979600fe73cf1e5e88b1f090911f280239a5cc60081bd1aea", checked := Try.checked }
namespace Rows
def none {H : Type} : Left H := { results := [], args := [] }

/-- 'laws.FnExactPlaces': WHATEVER THE INPUT: true; the input reads as it did. -/
def fnExactPlacesSpec : ChangeSpec := { name := "fnExactPlaces", fn := fun _ => fun
  | [d1, d2, d3] => { results := [.lit (.bool true)], args := [d1, d2, d3] }
  | _ => none }
def fnExactPlacesRow : OpenClaim := { program := "ytnehpceohjlacaa", sum := "e50068a826962cd979600fe73cf1e5e88b1f090911f280239a5cc60081bd1aea", func := "loop.example/g00679/laws.FnExactPlaces", spec := "fnExactPlaces", unfollowed := true, recurses := true, apart := false }
def FnExactPlacesSaid : Prop := fnExactPlacesRow.holds Try.pinned (OpenSpec.ofChange fnExactPlacesSpec)

/-- ITS FALSE NEIGHBOUR: 'it returns false'. Refute it at one input. -/
def fnExactPlacesWrong : ChangeSpec := { name := "fnExactPlaces", fn := fun _ => fun
  | [d1, d2, d3] => { results := [.lit (.bool false)], args := [d1, d2, d3] }
  | _ => none }
def FnExactPlacesWrongFalsely : Prop := fnExactPlacesRow.holds Try.pinned (OpenSpec.ofChange fnExactPlacesWrong)

/-- 'laws.FnExactNextShared': WHATEVER THE INPUT: true; the input reads as it did. -/
def fnExactNextSharedSpec : ChangeSpec := { name := "fnExactNextShared", fn := fun _ => fun
  | [d1, d2] => { results := [.lit (.bool true)], args := [d1, d2] }
  | _ => none }
def fnExactNextSharedRow : OpenClaim := { program := "ytnehpceohjlacaa", sum := "e50068a826962cd979600fe73cf1e5e88b1f090911f280239a5cc60081bd1aea", func := "loop.example/g00679/laws.FnExactNextShared", spec := "fnExactNextShared", unfollowed := true, recurses := true, apart := false }
def FnExactNextSharedSaid : Prop := fnExactNextSharedRow.holds Try.pinned (OpenSpec.ofChange fnExactNextSharedSpec)

/-- ITS FALSE NEIGHBOUR: 'it returns false'. Refute it at one input. -/
def fnExactNextSharedWrong : ChangeSpec := { name := "fnExactNextShared", fn := fun _ => fun
  | [d1, d2] => { results := [.lit (.bool false)], args := [d1, d2] }
  | _ => none }
def FnExactNextSharedWrongFalsely : Prop := fnExactNextSharedRow.holds Try.pinned (OpenSpec.ofChange fnExactNextSharedWrong)

/-- 'laws.FnExactKin': WHATEVER THE INPUT: true; the input reads as it did. -/
def fnExactKinSpec : ChangeSpec := { name := "fnExactKin", fn := fun _ => fun
  | [d1, d2] => { results := [.lit (.bool true)], args := [d1, d2] }
  | _ => none }
def fnExactKinRow : OpenClaim := { program := "ytnehpceohjlacaa", sum := "e50068a826962cd979600fe73cf1e5e88b1f090911f280239a5cc60081bd1aea", func := "loop.example/g00679/laws.FnExactKin", spec := "fnExactKin", recurses := true, apart := false }
def FnExactKinSaid : Prop := fnExactKinRow.holds Try.pinned (OpenSpec.ofChange fnExactKinSpec)

/-- ITS FALSE NEIGHBOUR: 'it returns false'. Refute it at one input. -/
def fnExactKinWrong : ChangeSpec := { name := "fnExactKin", fn := fun _ => fun
  | [d1, d2] => { results := [.lit (.bool false)], args := [d1, d2] }
  | _ => none }
def FnExactKinWrongFalsely : Prop := fnExactKinRow.holds Try.pinned (OpenSpec.ofChange fnExactKinWrong)

/-- 'laws.FnExactObjects': WHATEVER THE INPUT: true; the input reads as it did. -/
def fnExactObjectsSpec : ChangeSpec := { name := "fnExactObjects", fn := fun _ => fun
  | [d1, d2] => { results := [.lit (.bool true)], args := [d1, d2] }
  | _ => none }
def fnExactObjectsRow : OpenClaim := { program := "ytnehpceohjlacaa", sum := "e50068a826962cd979600fe73cf1e5e88b1f090911f280239a5cc60081bd1aea", func := "loop.example/g00679/laws.FnExactObjects", spec := "fnExactObjects", recurses := true, apart := false }
def FnExactObjectsSaid : Prop := fnExactObjectsRow.holds Try.pinned (OpenSpec.ofChange fnExactObjectsSpec)

/-- ITS FALSE NEIGHBOUR: 'it returns false'. Refute it at one input. -/
def fnExactObjectsWrong : ChangeSpec := { name := "fnExactObjects", fn := fun _ => fun
  | [d1, d2] => { results := [.lit (.bool false)], args := [d1, d2] }
  | _ => none }
def FnExactObjectsWrongFalsely : Prop := fnExactObjectsRow.holds Try.pinned (OpenSpec.ofChange fnExactObjectsWrong)

/-- 'laws.FnExactMeet': WHATEVER THE INPUT: true; the input reads as it did. -/
def fnExactMeetSpec : ChangeSpec := { name := "fnExactMeet", fn := fun _ => fun
  | [d1, d2, d3] => { results := [.lit (.bool true)], args := [d1, d2, d3] }
  | _ => none }
def fnExactMeetRow : OpenClaim := { program := "ytnehpceohjlacaa", sum := "e50068a826962cd979600fe73cf1e5e88b1f090911f280239a5cc60081bd1aea", func := "loop.example/g00679/laws.FnExactMeet", spec := "fnExactMeet", unfollowed := true, recurses := true, apart := false }
def FnExactMeetSaid : Prop := fnExactMeetRow.holds Try.pinned (OpenSpec.ofChange fnExactMeetSpec)

/-- ITS FALSE NEIGHBOUR: 'it returns false'. Refute it at one input. -/
def fnExactMeetWrong : ChangeSpec := { name := "fnExactMeet", fn := fun _ => fun
  | [d1, d2, d3] => { results := [.lit (.bool false)], args := [d1, d2, d3] }
  | _ => none }
def FnExactMeetWrongFalsely : Prop := fnExactMeetRow.holds Try.pinned (OpenSpec.ofChange fnExactMeetWrong)

/- THE SECOND FORM. 'bulk': how many values and letters a reading holds, each counted each time it is reached (what is shared counts as often as it is met; a slice's spare places count too). A statement '..UptoSaid' is the law's where the arguments, and the package variables that the reading takes, are together of bulk at most 1048576: NARROWER than '..Said'. Prove '..Said' where nothing that the law and all that it calls make is longer than what came in: it says more and counts as full. Else prove '..UptoSaid'. A law counts once. -/
mutual
def uptoBulk {H : Type} : DataW H → Nat
  | .lit (.string bytes) => bytes.length + 1
  | .lit _ => 1
  | .nil => 1
  | .ptr d => uptoBulk d + 1
  | .slice elems spare => uptoBulkAll elems + uptoBulkAll spare + 1
  | .agg parts => uptoBulkAll parts + 1
  | .iface _ d => uptoBulk d + 1
  | .map entries => uptoBulkEntries entries + 1
  | .held _ => 1
def uptoBulkAll {H : Type} : List (DataW H) → Nat
  | [] => 0
  | d :: r => uptoBulk d + uptoBulkAll r
def uptoBulkEntries {H : Type} : List (Lit × DataW H) → Nat
  | [] => 0
  | x :: r => uptoBulkEntry x + uptoBulkEntries r
def uptoBulkEntry {H : Type} : Lit × DataW H → Nat
  | (.string bytes, d) => bytes.length + uptoBulk d + 1
  | (_, d) => uptoBulk d + 1
 end
def uptoSmall : (H : Type) → List (DataW H) → Bool := fun _ ds => decide (uptoBulkAll ds ≤ 1048576)
def OpenSpec.upto (s : _root_.Go.ChangeSpec) : _root_.Go.OpenSpec := { _root_.Go.OpenSpec.ofChange s with cond := some uptoSmall }

/-- 'laws.FnExactPlaces', WHERE WHAT IT READS IS OF BULK AT MOST 1048576: true; the input reads as it did. -/
def fnExactPlacesUptoRow : OpenClaim := { program := "ytnehpceohjlacaa", sum := "e50068a826962cd979600fe73cf1e5e88b1f090911f280239a5cc60081bd1aea", func := "loop.example/g00679/laws.FnExactPlaces", spec := "fnExactPlaces", unfollowed := true, recurses := true, apart := false, narrowed := true }
def FnExactPlacesUptoSaid : Prop := fnExactPlacesUptoRow.holds Try.pinned (OpenSpec.upto fnExactPlacesSpec)

/-- 'laws.FnExactNextShared', WHERE WHAT IT READS IS OF BULK AT MOST 1048576: true; the input reads as it did. -/
def fnExactNextSharedUptoRow : OpenClaim := { program := "ytnehpceohjlacaa", sum := "e50068a826962cd979600fe73cf1e5e88b1f090911f280239a5cc60081bd1aea", func := "loop.example/g00679/laws.FnExactNextShared", spec := "fnExactNextShared", unfollowed := true, recurses := true, apart := false, narrowed := true }
def FnExactNextSharedUptoSaid : Prop := fnExactNextSharedUptoRow.holds Try.pinned (OpenSpec.upto fnExactNextSharedSpec)

/-- 'laws.FnExactKin', WHERE WHAT IT READS IS OF BULK AT MOST 1048576: true; the input reads as it did. -/
def fnExactKinUptoRow : OpenClaim := { program := "ytnehpceohjlacaa", sum := "e50068a826962cd979600fe73cf1e5e88b1f090911f280239a5cc60081bd1aea", func := "loop.example/g00679/laws.FnExactKin", spec := "fnExactKin", recurses := true, apart := false, narrowed := true }
def FnExactKinUptoSaid : Prop := fnExactKinUptoRow.holds Try.pinned (OpenSpec.upto fnExactKinSpec)

/-- 'laws.FnExactObjects', WHERE WHAT IT READS IS OF BULK AT MOST 1048576: true; the input reads as it did. -/
def fnExactObjectsUptoRow : OpenClaim := { program := "ytnehpceohjlacaa", sum := "e50068a826962cd979600fe73cf1e5e88b1f090911f280239a5cc60081bd1aea", func := "loop.example/g00679/laws.FnExactObjects", spec := "fnExactObjects", recurses := true, apart := false, narrowed := true }
def FnExactObjectsUptoSaid : Prop := fnExactObjectsUptoRow.holds Try.pinned (OpenSpec.upto fnExactObjectsSpec)

/-- 'laws.FnExactMeet', WHERE WHAT IT READS IS OF BULK AT MOST 1048576: true; the input reads as it did. -/
def fnExactMeetUptoRow : OpenClaim := { program := "ytnehpceohjlacaa", sum := "e50068a826962cd979600fe73cf1e5e88b1f090911f280239a5cc60081bd1aea", func := "loop.example/g00679/laws.FnExactMeet", spec := "fnExactMeet", unfollowed := true, recurses := true, apart := false, narrowed := true }
def FnExactMeetUptoSaid : Prop := fnExactMeetUptoRow.holds Try.pinned (OpenSpec.upto fnExactMeetSpec)

end Rows
end Go.Proofs.Ytnehpceohjlacaa
