/-
  No cell of these rows narrows 'for every input' (looked for: loops, veiled, ifaces, maps, wideKeys, modest, calm, conditions, laid).
  DERIVED. THE GIVEN ROWS OF THIS SEAT. 7 by the template 'for every input the law returns true; each argument reads behind the call as it read before'; 0 by the template 'total and deterministic' (their statements: YtflanhfpjgcfbaaTotals.lean).
  GIVEN WITH THE SEED: the statements are not yours to turn. If you find one false, say at which input.
  Laid BY PROGRAM, IN A SANDBOX (cutbox-rows.mjs): the forced cells as the released guide's own fill.sh prints them over the translation 7bdfffca2468205b… (all of the seat's roots in one cut). By AI agents, Wed Nov 11 2026. No macro, syntax, notation, axiom, sorry.
-/
import Derived.Test.YtflanhfpjgcfbaaChecked
import GoSem.Claim
import GoSem.ClaimJoined
import GoSem.ClaimMapViews
import Derived.JoinedTies
import Derived.KernelRfl
namespace Go.Proofs.Ytflanhfpjgcfbaa
/- THE CELL 'sum', in the pinned program and in every row, IS THE sha256 OF THE DUMP (.gsa) THAT YtflanhfpjgcfbaaProg.lean LOADS. Nothing in Lean hashes anything: it is a label: what it is worth is what the hold of that sum in a sandbox is worth. -/
noncomputable def Try.pinned : Pinned := { name := "ytflanhfpjgcfbaa", sum := "7bdfffca2468205b086c6e44f4c607a00350ea4d2f2660be7e53b4c186997fb5", checked := Try.checked }
namespace Rows
def none {H : Type} : Left H := { results := [], args := [] }

/-- 'laws.FnExactSameTraces': WHATEVER THE INPUT: true; the input reads as it did. -/
def fnExactSameTracesSpec : ChangeSpec := { name := "fnExactSameTraces", fn := fun _ => fun
  | [d1, d2] => { results := [.lit (.bool true)], args := [d1, d2] }
  | _ => none }
def fnExactSameTracesRow : OpenClaim := { program := "ytflanhfpjgcfbaa", sum := "7bdfffca2468205b086c6e44f4c607a00350ea4d2f2660be7e53b4c186997fb5", func := "loop.example/g00679/laws.FnExactSameTraces", spec := "fnExactSameTraces", apart := false }
def FnExactSameTracesSaid : Prop := fnExactSameTracesRow.holds Try.pinned (OpenSpec.ofChange fnExactSameTracesSpec)

/-- ITS FALSE NEIGHBOUR: 'it returns false'. Refute it at one input. -/
def fnExactSameTracesWrong : ChangeSpec := { name := "fnExactSameTraces", fn := fun _ => fun
  | [d1, d2] => { results := [.lit (.bool false)], args := [d1, d2] }
  | _ => none }
def FnExactSameTracesWrongFalsely : Prop := fnExactSameTracesRow.holds Try.pinned (OpenSpec.ofChange fnExactSameTracesWrong)

/-- 'laws.FnExactCaseReady': WHATEVER THE INPUT: true; the input reads as it did. -/
def fnExactCaseReadySpec : ChangeSpec := { name := "fnExactCaseReady", fn := fun _ => fun
  | [d1, d2] => { results := [.lit (.bool true)], args := [d1, d2] }
  | _ => none }
def fnExactCaseReadyRow : OpenClaim := { program := "ytflanhfpjgcfbaa", sum := "7bdfffca2468205b086c6e44f4c607a00350ea4d2f2660be7e53b4c186997fb5", func := "loop.example/g00679/laws.FnExactCaseReady", spec := "fnExactCaseReady", unfollowed := true, recurses := true, apart := false }
def FnExactCaseReadySaid : Prop := fnExactCaseReadyRow.holds Try.pinned (OpenSpec.ofChange fnExactCaseReadySpec)

/-- ITS FALSE NEIGHBOUR: 'it returns false'. Refute it at one input. -/
def fnExactCaseReadyWrong : ChangeSpec := { name := "fnExactCaseReady", fn := fun _ => fun
  | [d1, d2] => { results := [.lit (.bool false)], args := [d1, d2] }
  | _ => none }
def FnExactCaseReadyWrongFalsely : Prop := fnExactCaseReadyRow.holds Try.pinned (OpenSpec.ofChange fnExactCaseReadyWrong)

/-- 'laws.FnExactTraceOf': WHATEVER THE INPUT: true; the input reads as it did. -/
def fnExactTraceOfSpec : ChangeSpec := { name := "fnExactTraceOf", fn := fun _ => fun
  | [d1, d2] => { results := [.lit (.bool true)], args := [d1, d2] }
  | _ => none }
def fnExactTraceOfRow : OpenClaim := { program := "ytflanhfpjgcfbaa", sum := "7bdfffca2468205b086c6e44f4c607a00350ea4d2f2660be7e53b4c186997fb5", func := "loop.example/g00679/laws.FnExactTraceOf", spec := "fnExactTraceOf", apart := false }
def FnExactTraceOfSaid : Prop := fnExactTraceOfRow.holds Try.pinned (OpenSpec.ofChange fnExactTraceOfSpec)

/-- ITS FALSE NEIGHBOUR: 'it returns false'. Refute it at one input. -/
def fnExactTraceOfWrong : ChangeSpec := { name := "fnExactTraceOf", fn := fun _ => fun
  | [d1, d2] => { results := [.lit (.bool false)], args := [d1, d2] }
  | _ => none }
def FnExactTraceOfWrongFalsely : Prop := fnExactTraceOfRow.holds Try.pinned (OpenSpec.ofChange fnExactTraceOfWrong)

/-- 'laws.FnExactEventOk': WHATEVER THE INPUT: true; the input reads as it did. -/
def fnExactEventOkSpec : ChangeSpec := { name := "fnExactEventOk", fn := fun _ => fun
  | [d1, d2] => { results := [.lit (.bool true)], args := [d1, d2] }
  | _ => none }
def fnExactEventOkRow : OpenClaim := { program := "ytflanhfpjgcfbaa", sum := "7bdfffca2468205b086c6e44f4c607a00350ea4d2f2660be7e53b4c186997fb5", func := "loop.example/g00679/laws.FnExactEventOk", spec := "fnExactEventOk", apart := false }
def FnExactEventOkSaid : Prop := fnExactEventOkRow.holds Try.pinned (OpenSpec.ofChange fnExactEventOkSpec)

/-- ITS FALSE NEIGHBOUR: 'it returns false'. Refute it at one input. -/
def fnExactEventOkWrong : ChangeSpec := { name := "fnExactEventOk", fn := fun _ => fun
  | [d1, d2] => { results := [.lit (.bool false)], args := [d1, d2] }
  | _ => none }
def FnExactEventOkWrongFalsely : Prop := fnExactEventOkRow.holds Try.pinned (OpenSpec.ofChange fnExactEventOkWrong)

/-- 'laws.FnExactIsLocal': WHATEVER THE INPUT: true; the input reads as it did. -/
def fnExactIsLocalSpec : ChangeSpec := { name := "fnExactIsLocal", fn := fun _ => fun
  | [d1, d2] => { results := [.lit (.bool true)], args := [d1, d2] }
  | _ => none }
def fnExactIsLocalRow : OpenClaim := { program := "ytflanhfpjgcfbaa", sum := "7bdfffca2468205b086c6e44f4c607a00350ea4d2f2660be7e53b4c186997fb5", func := "loop.example/g00679/laws.FnExactIsLocal", spec := "fnExactIsLocal", unfollowed := true, recurses := true, apart := false }
def FnExactIsLocalSaid : Prop := fnExactIsLocalRow.holds Try.pinned (OpenSpec.ofChange fnExactIsLocalSpec)

/-- ITS FALSE NEIGHBOUR: 'it returns false'. Refute it at one input. -/
def fnExactIsLocalWrong : ChangeSpec := { name := "fnExactIsLocal", fn := fun _ => fun
  | [d1, d2] => { results := [.lit (.bool false)], args := [d1, d2] }
  | _ => none }
def FnExactIsLocalWrongFalsely : Prop := fnExactIsLocalRow.holds Try.pinned (OpenSpec.ofChange fnExactIsLocalWrong)

/-- 'laws.FnExactNextShared': WHATEVER THE INPUT: true; the input reads as it did. -/
def fnExactNextSharedSpec : ChangeSpec := { name := "fnExactNextShared", fn := fun _ => fun
  | [d1, d2] => { results := [.lit (.bool true)], args := [d1, d2] }
  | _ => none }
def fnExactNextSharedRow : OpenClaim := { program := "ytflanhfpjgcfbaa", sum := "7bdfffca2468205b086c6e44f4c607a00350ea4d2f2660be7e53b4c186997fb5", func := "loop.example/g00679/laws.FnExactNextShared", spec := "fnExactNextShared", unfollowed := true, recurses := true, apart := false }
def FnExactNextSharedSaid : Prop := fnExactNextSharedRow.holds Try.pinned (OpenSpec.ofChange fnExactNextSharedSpec)

/-- ITS FALSE NEIGHBOUR: 'it returns false'. Refute it at one input. -/
def fnExactNextSharedWrong : ChangeSpec := { name := "fnExactNextShared", fn := fun _ => fun
  | [d1, d2] => { results := [.lit (.bool false)], args := [d1, d2] }
  | _ => none }
def FnExactNextSharedWrongFalsely : Prop := fnExactNextSharedRow.holds Try.pinned (OpenSpec.ofChange fnExactNextSharedWrong)

/-- 'laws.FnExactPlaces': WHATEVER THE INPUT: true; the input reads as it did. -/
def fnExactPlacesSpec : ChangeSpec := { name := "fnExactPlaces", fn := fun _ => fun
  | [d1, d2, d3] => { results := [.lit (.bool true)], args := [d1, d2, d3] }
  | _ => none }
def fnExactPlacesRow : OpenClaim := { program := "ytflanhfpjgcfbaa", sum := "7bdfffca2468205b086c6e44f4c607a00350ea4d2f2660be7e53b4c186997fb5", func := "loop.example/g00679/laws.FnExactPlaces", spec := "fnExactPlaces", unfollowed := true, recurses := true, apart := false }
def FnExactPlacesSaid : Prop := fnExactPlacesRow.holds Try.pinned (OpenSpec.ofChange fnExactPlacesSpec)

/-- ITS FALSE NEIGHBOUR: 'it returns false'. Refute it at one input. -/
def fnExactPlacesWrong : ChangeSpec := { name := "fnExactPlaces", fn := fun _ => fun
  | [d1, d2, d3] => { results := [.lit (.bool false)], args := [d1, d2, d3] }
  | _ => none }
def FnExactPlacesWrongFalsely : Prop := fnExactPlacesRow.holds Try.pinned (OpenSpec.ofChange fnExactPlacesWrong)

/- THE SECOND FORM. 'bulk': how many values and letters a reading holds, each counted each time it is reached (what is shared counts as often as it is met; a slice's spare places count too). A statement '..UptoSaid' is the law's where the arguments, and the package variables that the reading takes, are together of bulk at most 1048576: NARROWER than '..Said'. Prove '..Said' where nothing that the law and all that it calls make is longer than what came in: it says more and counts as full. Else prove '..UptoSaid'. A law counts once. -/
mutual
def uptoBulk {H : Type} : DataW H → Nat
  | .lit (.string bytes) => bytes.length + 1
  | .lit _ => 1
  | .nil => 1
  | .ptr d => uptoBulk d + 1
  | .slice elems spare => uptoBulkAll elems + uptoBulkAll spare + 1
  | .agg parts => uptoBulkAll parts + 1
  | .iface _ d => uptoBulk d + 1
  | .map entries => uptoBulkEntries entries + 1
  | .held _ => 1
def uptoBulkAll {H : Type} : List (DataW H) → Nat
  | [] => 0
  | d :: r => uptoBulk d + uptoBulkAll r
def uptoBulkEntries {H : Type} : List (Lit × DataW H) → Nat
  | [] => 0
  | x :: r => uptoBulkEntry x + uptoBulkEntries r
def uptoBulkEntry {H : Type} : Lit × DataW H → Nat
  | (.string bytes, d) => bytes.length + uptoBulk d + 1
  | (_, d) => uptoBulk d + 1
 end
def uptoSmall : (H : Type) → List (DataW H) → Bool := fun _ ds => decide (uptoBulkAll ds ≤ 1048576)
def OpenSpec.upto (s : _root_.Go.ChangeSpec) : _root_.Go.OpenSpec := { _root_.Go.OpenSpec.ofChange s with cond := some uptoSmall }

/-- 'laws.FnExactSameTraces', WHERE WHAT IT READS IS OF BULK AT MOST 1048576: true; the input reads as it did. -/
def fnExactSameTracesUptoRow : OpenClaim := { program := "ytflanhfpjgcfbaa", sum := "7bdfffca2468205b086c6e44f4c607a00350ea4d2f2660be7e53b4c186997fb5", func := "loop.example/g00679/laws.FnExactSameTraces", spec := "fnExactSameTraces", apart := false, narrowed := true }
def FnExactSameTracesUptoSaid : Prop := fnExactSameTracesUptoRow.holds Try.pinned (OpenSpec.upto fnExactSameTracesSpec)

/-- 'laws.FnExactCaseReady', WHERE WHAT IT READS IS OF BULK AT MOST 1048576: true; the input reads as it did. -/
def fnExactCaseReadyUptoRow : OpenClaim := { program := "ytflanhfpjgcfbaa", sum := "7bdfffca2468205b086c6e44f4c607a00350ea4d2f2660be7e53b4c186997fb5", func := "loop.example/g00679/laws.FnExactCaseReady", spec := "fnExactCaseReady", unfollowed := true, recurses := true, apart := false, narrowed := true }
def FnExactCaseReadyUptoSaid : Prop := fnExactCaseReadyUptoRow.holds Try.pinned (OpenSpec.upto fnExactCaseReadySpec)

/-- 'laws.FnExactTraceOf', WHERE WHAT IT READS IS OF BULK AT MOST 1048576: true; the input reads as it did. -/
def fnExactTraceOfUptoRow : OpenClaim := { program := "ytflanhfpjgcfbaa", sum := "7bdfffca2468205b086c6e44f4c607a00350ea4d2f2660be7e53b4c186997fb5", func := "loop.example/g00679/laws.FnExactTraceOf", spec := "fnExactTraceOf", apart := false, narrowed := true }
def FnExactTraceOfUptoSaid : Prop := fnExactTraceOfUptoRow.holds Try.pinned (OpenSpec.upto fnExactTraceOfSpec)

/-- 'laws.FnExactEventOk', WHERE WHAT IT READS IS OF BULK AT MOST 1048576: true; the input reads as it did. -/
def fnExactEventOkUptoRow : OpenClaim := { program := "ytflanhfpjgcfbaa", sum := "7bdfffca2468205b086c6e44f4c607a00350ea4d2f2660be7e53b4c186997fb5", func := "loop.example/g00679/laws.FnExactEventOk", spec := "fnExactEventOk", apart := false, narrowed := true }
def FnExactEventOkUptoSaid : Prop := fnExactEventOkUptoRow.holds Try.pinned (OpenSpec.upto fnExactEventOkSpec)

/-- 'laws.FnExactIsLocal', WHERE WHAT IT READS IS OF BULK AT MOST 1048576: true; the input reads as it did. -/
def fnExactIsLocalUptoRow : OpenClaim := { program := "ytflanhfpjgcfbaa", sum := "7bdfffca2468205b086c6e44f4c607a00350ea4d2f2660be7e53b4c186997fb5", func := "loop.example/g00679/laws.FnExactIsLocal", spec := "fnExactIsLocal", unfollowed := true, recurses := true, apart := false, narrowed := true }
def FnExactIsLocalUptoSaid : Prop := fnExactIsLocalUptoRow.holds Try.pinned (OpenSpec.upto fnExactIsLocalSpec)

/-- 'laws.FnExactNextShared', WHERE WHAT IT READS IS OF BULK AT MOST 1048576: true; the input reads as it did. -/
def fnExactNextSharedUptoRow : OpenClaim := { program := "ytflanhfpjgcfbaa", sum := "7bdfffca2468205b086c6e44f4c607a00350ea4d2f2660be7e53b4c186997fb5", func := "loop.example/g00679/laws.FnExactNextShared", spec := "fnExactNextShared", unfollowed := true, recurses := true, apart := false, narrowed := true }
def FnExactNextSharedUptoSaid : Prop := fnExactNextSharedUptoRow.holds Try.pinned (OpenSpec.upto fnExactNextSharedSpec)

/-- 'laws.FnExactPlaces', WHERE WHAT IT READS IS OF BULK AT MOST 1048576: true; the input reads as it did. -/
def fnExactPlacesUptoRow : OpenClaim := { program := "ytflanhfpjgcfbaa", sum := "7bdfffca2468205b086c6e44f4c607a00350ea4d2f2660be7e53b4c186997fb5", func := "loop.example/g00679/laws.FnExactPlaces", spec := "fnExactPlaces", unfollowed := true, recurses := true, apart := false, narrowed := true }
def FnExactPlacesUptoSaid : Prop := fnExactPlacesUptoRow.holds Try.pinned (OpenSpec.upto fnExactPlacesSpec)

end Rows
end Go.Proofs.Ytflanhfpjgcfbaa
