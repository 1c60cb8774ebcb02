/-
  No cell of these rows narrows 'for every input' (looked for: loops, veiled, ifaces, maps, wideKeys, modest, calm, conditions, laid).
  DERIVED. THE GIVEN ROWS OF THIS SEAT. 11 by the template 'for every input the law returns true; each argument reads behind the call as it read before'; 0 by the template 'total and deterministic' (their statements: YteeefpifkepbpaaTotals.lean).
  GIVEN WITH THE SEED: the statements are not yours to turn. If you find one false, say at which input.
  Laid BY PROGRAM, IN A SANDBOX (cutbox-rows.mjs): the forced cells as the released guide's own fill.sh prints them over the translation e3fa6d780ccc2fcd… (all of the seat's roots in one cut). By AI agents, Wed Nov 11 2026. No macro, syntax, notation, axiom, sorry.
-/
import Derived.Test.YteeefpifkepbpaaChecked
import GoSem.Claim
import GoSem.ClaimJoined
import GoSem.ClaimMapViews
import Derived.JoinedTies
import Derived.KernelRfl
namespace Go.Proofs.Yteeefpifkepbpaa
/- THE CELL 'sum', in the pinned program and in every row, IS THE sha256 OF THE DUMP (.gsa) THAT YteeefpifkepbpaaProg.lean LOADS. Nothing in Lean hashes anything: it is a label: what it is worth is what the hold of that sum in a sandbox is worth. -/
noncomputable def Try.pinned : Pinned := { name := "yteeefpifkepbpaa", sum := "e3fa6d780ccc2fcde1658c25abddcca04a5f99e2d8d361fe5715ec70ca4d1bd0", checked := Try.checked }
namespace Rows
def none {H : Type} : Left H := { results := [], args := [] }

/-- 'laws.FnExactPackEvent': WHATEVER THE INPUT: true; the input reads as it did. -/
def fnExactPackEventSpec : ChangeSpec := { name := "fnExactPackEvent", fn := fun _ => fun
  | [d1, d2, d3] => { results := [.lit (.bool true)], args := [d1, d2, d3] }
  | _ => none }
def fnExactPackEventRow : OpenClaim := { program := "yteeefpifkepbpaa", sum := "e3fa6d780ccc2fcde1658c25abddcca04a5f99e2d8d361fe5715ec70ca4d1bd0", func := "loop.example/g00679/laws.FnExactPackEvent", spec := "fnExactPackEvent", apart := false }
def FnExactPackEventSaid : Prop := fnExactPackEventRow.holds Try.pinned (OpenSpec.ofChange fnExactPackEventSpec)

/-- ITS FALSE NEIGHBOUR: 'it returns false'. Refute it at one input. -/
def fnExactPackEventWrong : ChangeSpec := { name := "fnExactPackEvent", fn := fun _ => fun
  | [d1, d2, d3] => { results := [.lit (.bool false)], args := [d1, d2, d3] }
  | _ => none }
def FnExactPackEventWrongFalsely : Prop := fnExactPackEventRow.holds Try.pinned (OpenSpec.ofChange fnExactPackEventWrong)

/-- 'laws.FnExactEvents': WHATEVER THE INPUT: true; the input reads as it did. -/
def fnExactEventsSpec : ChangeSpec := { name := "fnExactEvents", fn := fun _ => fun
  | [d] => { results := [.lit (.bool true)], args := [d] }
  | _ => none }
def fnExactEventsRow : OpenClaim := { program := "yteeefpifkepbpaa", sum := "e3fa6d780ccc2fcde1658c25abddcca04a5f99e2d8d361fe5715ec70ca4d1bd0", func := "loop.example/g00679/laws.FnExactEvents", spec := "fnExactEvents", unfollowed := true, recurses := true, apart := false }
def FnExactEventsSaid : Prop := fnExactEventsRow.holds Try.pinned (OpenSpec.ofChange fnExactEventsSpec)

/-- ITS FALSE NEIGHBOUR: 'it returns false'. Refute it at one input. -/
def fnExactEventsWrong : ChangeSpec := { name := "fnExactEvents", fn := fun _ => fun
  | [d] => { results := [.lit (.bool false)], args := [d] }
  | _ => none }
def FnExactEventsWrongFalsely : Prop := fnExactEventsRow.holds Try.pinned (OpenSpec.ofChange fnExactEventsWrong)

/-- 'laws.FnExactLogCut': WHATEVER THE INPUT: true; the input reads as it did. -/
def fnExactLogCutSpec : ChangeSpec := { name := "fnExactLogCut", fn := fun _ => fun
  | [d1, d2] => { results := [.lit (.bool true)], args := [d1, d2] }
  | _ => none }
def fnExactLogCutRow : OpenClaim := { program := "yteeefpifkepbpaa", sum := "e3fa6d780ccc2fcde1658c25abddcca04a5f99e2d8d361fe5715ec70ca4d1bd0", func := "loop.example/g00679/laws.FnExactLogCut", spec := "fnExactLogCut", apart := false }
def FnExactLogCutSaid : Prop := fnExactLogCutRow.holds Try.pinned (OpenSpec.ofChange fnExactLogCutSpec)

/-- ITS FALSE NEIGHBOUR: 'it returns false'. Refute it at one input. -/
def fnExactLogCutWrong : ChangeSpec := { name := "fnExactLogCut", fn := fun _ => fun
  | [d1, d2] => { results := [.lit (.bool false)], args := [d1, d2] }
  | _ => none }
def FnExactLogCutWrongFalsely : Prop := fnExactLogCutRow.holds Try.pinned (OpenSpec.ofChange fnExactLogCutWrong)

/-- 'laws.FnExactEventText': WHATEVER THE INPUT: true; the input reads as it did. -/
def fnExactEventTextSpec : ChangeSpec := { name := "fnExactEventText", fn := fun _ => fun
  | [d] => { results := [.lit (.bool true)], args := [d] }
  | _ => none }
def fnExactEventTextRow : OpenClaim := { program := "yteeefpifkepbpaa", sum := "e3fa6d780ccc2fcde1658c25abddcca04a5f99e2d8d361fe5715ec70ca4d1bd0", func := "loop.example/g00679/laws.FnExactEventText", spec := "fnExactEventText", inPlace := ["internal/abi.NoEscape", "internal/bytealg.MakeNoZero"], recurses := true, apart := false }
def FnExactEventTextSaid : Prop := fnExactEventTextRow.holds Try.pinned (OpenSpec.ofChange fnExactEventTextSpec)

/-- ITS FALSE NEIGHBOUR: 'it returns false'. Refute it at one input. -/
def fnExactEventTextWrong : ChangeSpec := { name := "fnExactEventText", fn := fun _ => fun
  | [d] => { results := [.lit (.bool false)], args := [d] }
  | _ => none }
def FnExactEventTextWrongFalsely : Prop := fnExactEventTextRow.holds Try.pinned (OpenSpec.ofChange fnExactEventTextWrong)

/-- 'laws.FnExactPackSome': WHATEVER THE INPUT: true; the input reads as it did. -/
def fnExactPackSomeSpec : ChangeSpec := { name := "fnExactPackSome", fn := fun _ => fun
  | [d] => { results := [.lit (.bool true)], args := [d] }
  | _ => none }
def fnExactPackSomeRow : OpenClaim := { program := "yteeefpifkepbpaa", sum := "e3fa6d780ccc2fcde1658c25abddcca04a5f99e2d8d361fe5715ec70ca4d1bd0", func := "loop.example/g00679/laws.FnExactPackSome", spec := "fnExactPackSome", apart := false }
def FnExactPackSomeSaid : Prop := fnExactPackSomeRow.holds Try.pinned (OpenSpec.ofChange fnExactPackSomeSpec)

/-- ITS FALSE NEIGHBOUR: 'it returns false'. Refute it at one input. -/
def fnExactPackSomeWrong : ChangeSpec := { name := "fnExactPackSome", fn := fun _ => fun
  | [d] => { results := [.lit (.bool false)], args := [d] }
  | _ => none }
def FnExactPackSomeWrongFalsely : Prop := fnExactPackSomeRow.holds Try.pinned (OpenSpec.ofChange fnExactPackSomeWrong)

/-- 'laws.FnExactReadEvent': WHATEVER THE INPUT: true; the input reads as it did. -/
def fnExactReadEventSpec : ChangeSpec := { name := "fnExactReadEvent", fn := fun _ => fun
  | [d1, d2, d3] => { results := [.lit (.bool true)], args := [d1, d2, d3] }
  | _ => none }
def fnExactReadEventRow : OpenClaim := { program := "yteeefpifkepbpaa", sum := "e3fa6d780ccc2fcde1658c25abddcca04a5f99e2d8d361fe5715ec70ca4d1bd0", func := "loop.example/g00679/laws.FnExactReadEvent", spec := "fnExactReadEvent", apart := false }
def FnExactReadEventSaid : Prop := fnExactReadEventRow.holds Try.pinned (OpenSpec.ofChange fnExactReadEventSpec)

/-- ITS FALSE NEIGHBOUR: 'it returns false'. Refute it at one input. -/
def fnExactReadEventWrong : ChangeSpec := { name := "fnExactReadEvent", fn := fun _ => fun
  | [d1, d2, d3] => { results := [.lit (.bool false)], args := [d1, d2, d3] }
  | _ => none }
def FnExactReadEventWrongFalsely : Prop := fnExactReadEventRow.holds Try.pinned (OpenSpec.ofChange fnExactReadEventWrong)

/-- 'laws.FnExactReadSome': WHATEVER THE INPUT: true; the input reads as it did. -/
def fnExactReadSomeSpec : ChangeSpec := { name := "fnExactReadSome", fn := fun _ => fun
  | [d] => { results := [.lit (.bool true)], args := [d] }
  | _ => none }
def fnExactReadSomeRow : OpenClaim := { program := "yteeefpifkepbpaa", sum := "e3fa6d780ccc2fcde1658c25abddcca04a5f99e2d8d361fe5715ec70ca4d1bd0", func := "loop.example/g00679/laws.FnExactReadSome", spec := "fnExactReadSome", apart := false }
def FnExactReadSomeSaid : Prop := fnExactReadSomeRow.holds Try.pinned (OpenSpec.ofChange fnExactReadSomeSpec)

/-- ITS FALSE NEIGHBOUR: 'it returns false'. Refute it at one input. -/
def fnExactReadSomeWrong : ChangeSpec := { name := "fnExactReadSome", fn := fun _ => fun
  | [d] => { results := [.lit (.bool false)], args := [d] }
  | _ => none }
def FnExactReadSomeWrongFalsely : Prop := fnExactReadSomeRow.holds Try.pinned (OpenSpec.ofChange fnExactReadSomeWrong)

/-- 'laws.FnEvents': WHATEVER THE INPUT: true; the input reads as it did. -/
def fnEventsSpec : ChangeSpec := { name := "fnEvents", fn := fun _ => fun
  | [d] => { results := [.lit (.bool true)], args := [d] }
  | _ => none }
def fnEventsRow : OpenClaim := { program := "yteeefpifkepbpaa", sum := "e3fa6d780ccc2fcde1658c25abddcca04a5f99e2d8d361fe5715ec70ca4d1bd0", func := "loop.example/g00679/laws.FnEvents", spec := "fnEvents", unfollowed := true, recurses := true, apart := false }
def FnEventsSaid : Prop := fnEventsRow.holds Try.pinned (OpenSpec.ofChange fnEventsSpec)

/-- ITS FALSE NEIGHBOUR: 'it returns false'. Refute it at one input. -/
def fnEventsWrong : ChangeSpec := { name := "fnEvents", fn := fun _ => fun
  | [d] => { results := [.lit (.bool false)], args := [d] }
  | _ => none }
def FnEventsWrongFalsely : Prop := fnEventsRow.holds Try.pinned (OpenSpec.ofChange fnEventsWrong)

/-- 'laws.FnExactLogSize': WHATEVER THE INPUT: true; the input reads as it did. -/
def fnExactLogSizeSpec : ChangeSpec := { name := "fnExactLogSize", fn := fun _ => fun
  | [d] => { results := [.lit (.bool true)], args := [d] }
  | _ => none }
def fnExactLogSizeRow : OpenClaim := { program := "yteeefpifkepbpaa", sum := "e3fa6d780ccc2fcde1658c25abddcca04a5f99e2d8d361fe5715ec70ca4d1bd0", func := "loop.example/g00679/laws.FnExactLogSize", spec := "fnExactLogSize", unfollowed := true, recurses := true, apart := false }
def FnExactLogSizeSaid : Prop := fnExactLogSizeRow.holds Try.pinned (OpenSpec.ofChange fnExactLogSizeSpec)

/-- ITS FALSE NEIGHBOUR: 'it returns false'. Refute it at one input. -/
def fnExactLogSizeWrong : ChangeSpec := { name := "fnExactLogSize", fn := fun _ => fun
  | [d] => { results := [.lit (.bool false)], args := [d] }
  | _ => none }
def FnExactLogSizeWrongFalsely : Prop := fnExactLogSizeRow.holds Try.pinned (OpenSpec.ofChange fnExactLogSizeWrong)

/-- 'laws.FnExactLogBytes': WHATEVER THE INPUT: true; the input reads as it did. -/
def fnExactLogBytesSpec : ChangeSpec := { name := "fnExactLogBytes", fn := fun _ => fun
  | [d] => { results := [.lit (.bool true)], args := [d] }
  | _ => none }
def fnExactLogBytesRow : OpenClaim := { program := "yteeefpifkepbpaa", sum := "e3fa6d780ccc2fcde1658c25abddcca04a5f99e2d8d361fe5715ec70ca4d1bd0", func := "loop.example/g00679/laws.FnExactLogBytes", spec := "fnExactLogBytes", unfollowed := true, recurses := true, apart := false }
def FnExactLogBytesSaid : Prop := fnExactLogBytesRow.holds Try.pinned (OpenSpec.ofChange fnExactLogBytesSpec)

/-- ITS FALSE NEIGHBOUR: 'it returns false'. Refute it at one input. -/
def fnExactLogBytesWrong : ChangeSpec := { name := "fnExactLogBytes", fn := fun _ => fun
  | [d] => { results := [.lit (.bool false)], args := [d] }
  | _ => none }
def FnExactLogBytesWrongFalsely : Prop := fnExactLogBytesRow.holds Try.pinned (OpenSpec.ofChange fnExactLogBytesWrong)

/-- 'laws.FnExactLogRead': WHATEVER THE INPUT: true; the input reads as it did. -/
def fnExactLogReadSpec : ChangeSpec := { name := "fnExactLogRead", fn := fun _ => fun
  | [d] => { results := [.lit (.bool true)], args := [d] }
  | _ => none }
def fnExactLogReadRow : OpenClaim := { program := "yteeefpifkepbpaa", sum := "e3fa6d780ccc2fcde1658c25abddcca04a5f99e2d8d361fe5715ec70ca4d1bd0", func := "loop.example/g00679/laws.FnExactLogRead", spec := "fnExactLogRead", apart := false }
def FnExactLogReadSaid : Prop := fnExactLogReadRow.holds Try.pinned (OpenSpec.ofChange fnExactLogReadSpec)

/-- ITS FALSE NEIGHBOUR: 'it returns false'. Refute it at one input. -/
def fnExactLogReadWrong : ChangeSpec := { name := "fnExactLogRead", fn := fun _ => fun
  | [d] => { results := [.lit (.bool false)], args := [d] }
  | _ => none }
def FnExactLogReadWrongFalsely : Prop := fnExactLogReadRow.holds Try.pinned (OpenSpec.ofChange fnExactLogReadWrong)

/- THE SECOND FORM. 'bulk': how many values and letters a reading holds, each counted each time it is reached (what is shared counts as often as it is met; a slice's spare places count too). A statement '..UptoSaid' is the law's where the arguments, and the package variables that the reading takes, are together of bulk at most 1048576: NARROWER than '..Said'. Prove '..Said' where nothing that the law and all that it calls make is longer than what came in: it says more and counts as full. Else prove '..UptoSaid'. A law counts once. -/
mutual
def uptoBulk {H : Type} : DataW H → Nat
  | .lit (.string bytes) => bytes.length + 1
  | .lit _ => 1
  | .nil => 1
  | .ptr d => uptoBulk d + 1
  | .slice elems spare => uptoBulkAll elems + uptoBulkAll spare + 1
  | .agg parts => uptoBulkAll parts + 1
  | .iface _ d => uptoBulk d + 1
  | .map entries => uptoBulkEntries entries + 1
  | .held _ => 1
def uptoBulkAll {H : Type} : List (DataW H) → Nat
  | [] => 0
  | d :: r => uptoBulk d + uptoBulkAll r
def uptoBulkEntries {H : Type} : List (Lit × DataW H) → Nat
  | [] => 0
  | x :: r => uptoBulkEntry x + uptoBulkEntries r
def uptoBulkEntry {H : Type} : Lit × DataW H → Nat
  | (.string bytes, d) => bytes.length + uptoBulk d + 1
  | (_, d) => uptoBulk d + 1
 end
def uptoSmall : (H : Type) → List (DataW H) → Bool := fun _ ds => decide (uptoBulkAll ds ≤ 1048576)
def OpenSpec.upto (s : _root_.Go.ChangeSpec) : _root_.Go.OpenSpec := { _root_.Go.OpenSpec.ofChange s with cond := some uptoSmall }

/-- 'laws.FnExactPackEvent', WHERE WHAT IT READS IS OF BULK AT MOST 1048576: true; the input reads as it did. -/
def fnExactPackEventUptoRow : OpenClaim := { program := "yteeefpifkepbpaa", sum := "e3fa6d780ccc2fcde1658c25abddcca04a5f99e2d8d361fe5715ec70ca4d1bd0", func := "loop.example/g00679/laws.FnExactPackEvent", spec := "fnExactPackEvent", apart := false, narrowed := true }
def FnExactPackEventUptoSaid : Prop := fnExactPackEventUptoRow.holds Try.pinned (OpenSpec.upto fnExactPackEventSpec)

/-- 'laws.FnExactEvents', WHERE WHAT IT READS IS OF BULK AT MOST 1048576: true; the input reads as it did. -/
def fnExactEventsUptoRow : OpenClaim := { program := "yteeefpifkepbpaa", sum := "e3fa6d780ccc2fcde1658c25abddcca04a5f99e2d8d361fe5715ec70ca4d1bd0", func := "loop.example/g00679/laws.FnExactEvents", spec := "fnExactEvents", unfollowed := true, recurses := true, apart := false, narrowed := true }
def FnExactEventsUptoSaid : Prop := fnExactEventsUptoRow.holds Try.pinned (OpenSpec.upto fnExactEventsSpec)

/-- 'laws.FnExactLogCut', WHERE WHAT IT READS IS OF BULK AT MOST 1048576: true; the input reads as it did. -/
def fnExactLogCutUptoRow : OpenClaim := { program := "yteeefpifkepbpaa", sum := "e3fa6d780ccc2fcde1658c25abddcca04a5f99e2d8d361fe5715ec70ca4d1bd0", func := "loop.example/g00679/laws.FnExactLogCut", spec := "fnExactLogCut", apart := false, narrowed := true }
def FnExactLogCutUptoSaid : Prop := fnExactLogCutUptoRow.holds Try.pinned (OpenSpec.upto fnExactLogCutSpec)

/-- 'laws.FnExactEventText', WHERE WHAT IT READS IS OF BULK AT MOST 1048576: true; the input reads as it did. -/
def fnExactEventTextUptoRow : OpenClaim := { program := "yteeefpifkepbpaa", sum := "e3fa6d780ccc2fcde1658c25abddcca04a5f99e2d8d361fe5715ec70ca4d1bd0", func := "loop.example/g00679/laws.FnExactEventText", spec := "fnExactEventText", inPlace := ["internal/abi.NoEscape", "internal/bytealg.MakeNoZero"], recurses := true, apart := false, narrowed := true }
def FnExactEventTextUptoSaid : Prop := fnExactEventTextUptoRow.holds Try.pinned (OpenSpec.upto fnExactEventTextSpec)

/-- 'laws.FnExactPackSome', WHERE WHAT IT READS IS OF BULK AT MOST 1048576: true; the input reads as it did. -/
def fnExactPackSomeUptoRow : OpenClaim := { program := "yteeefpifkepbpaa", sum := "e3fa6d780ccc2fcde1658c25abddcca04a5f99e2d8d361fe5715ec70ca4d1bd0", func := "loop.example/g00679/laws.FnExactPackSome", spec := "fnExactPackSome", apart := false, narrowed := true }
def FnExactPackSomeUptoSaid : Prop := fnExactPackSomeUptoRow.holds Try.pinned (OpenSpec.upto fnExactPackSomeSpec)

/-- 'laws.FnExactReadEvent', WHERE WHAT IT READS IS OF BULK AT MOST 1048576: true; the input reads as it did. -/
def fnExactReadEventUptoRow : OpenClaim := { program := "yteeefpifkepbpaa", sum := "e3fa6d780ccc2fcde1658c25abddcca04a5f99e2d8d361fe5715ec70ca4d1bd0", func := "loop.example/g00679/laws.FnExactReadEvent", spec := "fnExactReadEvent", apart := false, narrowed := true }
def FnExactReadEventUptoSaid : Prop := fnExactReadEventUptoRow.holds Try.pinned (OpenSpec.upto fnExactReadEventSpec)

/-- 'laws.FnExactReadSome', WHERE WHAT IT READS IS OF BULK AT MOST 1048576: true; the input reads as it did. -/
def fnExactReadSomeUptoRow : OpenClaim := { program := "yteeefpifkepbpaa", sum := "e3fa6d780ccc2fcde1658c25abddcca04a5f99e2d8d361fe5715ec70ca4d1bd0", func := "loop.example/g00679/laws.FnExactReadSome", spec := "fnExactReadSome", apart := false, narrowed := true }
def FnExactReadSomeUptoSaid : Prop := fnExactReadSomeUptoRow.holds Try.pinned (OpenSpec.upto fnExactReadSomeSpec)

/-- 'laws.FnEvents', WHERE WHAT IT READS IS OF BULK AT MOST 1048576: true; the input reads as it did. -/
def fnEventsUptoRow : OpenClaim := { program := "yteeefpifkepbpaa", sum := "e3fa6d780ccc2fcde1658c25abddcca04a5f99e2d8d361fe5715ec70ca4d1bd0", func := "loop.example/g00679/laws.FnEvents", spec := "fnEvents", unfollowed := true, recurses := true, apart := false, narrowed := true }
def FnEventsUptoSaid : Prop := fnEventsUptoRow.holds Try.pinned (OpenSpec.upto fnEventsSpec)

/-- 'laws.FnExactLogSize', WHERE WHAT IT READS IS OF BULK AT MOST 1048576: true; the input reads as it did. -/
def fnExactLogSizeUptoRow : OpenClaim := { program := "yteeefpifkepbpaa", sum := "e3fa6d780ccc2fcde1658c25abddcca04a5f99e2d8d361fe5715ec70ca4d1bd0", func := "loop.example/g00679/laws.FnExactLogSize", spec := "fnExactLogSize", unfollowed := true, recurses := true, apart := false, narrowed := true }
def FnExactLogSizeUptoSaid : Prop := fnExactLogSizeUptoRow.holds Try.pinned (OpenSpec.upto fnExactLogSizeSpec)

/-- 'laws.FnExactLogBytes', WHERE WHAT IT READS IS OF BULK AT MOST 1048576: true; the input reads as it did. -/
def fnExactLogBytesUptoRow : OpenClaim := { program := "yteeefpifkepbpaa", sum := "e3fa6d780ccc2fcde1658c25abddcca04a5f99e2d8d361fe5715ec70ca4d1bd0", func := "loop.example/g00679/laws.FnExactLogBytes", spec := "fnExactLogBytes", unfollowed := true, recurses := true, apart := false, narrowed := true }
def FnExactLogBytesUptoSaid : Prop := fnExactLogBytesUptoRow.holds Try.pinned (OpenSpec.upto fnExactLogBytesSpec)

/-- 'laws.FnExactLogRead', WHERE WHAT IT READS IS OF BULK AT MOST 1048576: true; the input reads as it did. -/
def fnExactLogReadUptoRow : OpenClaim := { program := "yteeefpifkepbpaa", sum := "e3fa6d780ccc2fcde1658c25abddcca04a5f99e2d8d361fe5715ec70ca4d1bd0", func := "loop.example/g00679/laws.FnExactLogRead", spec := "fnExactLogRead", apart := false, narrowed := true }
def FnExactLogReadUptoSaid : Prop := fnExactLogReadUptoRow.holds Try.pinned (OpenSpec.upto fnExactLogReadSpec)

end Rows
end Go.Proofs.Yteeefpifkepbpaa
