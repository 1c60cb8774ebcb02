/-
  No cell of these rows narrows 'for every input' (looked for: loops, veiled, ifaces, maps, wideKeys, modest, calm, conditions, laid).
  DERIVED. THE GIVEN ROWS OF THIS SEAT. 5 by the template 'for every input the law returns true; each argument reads behind the call as it read before'; 0 by the template 'total and deterministic' (their statements: YtdhoappjadnhcaaGreatTotals.lean).
  GIVEN WITH THE SEED: the statements are not yours to turn. If you find one false, say at which input.
  Laid BY PROGRAM, IN A SANDBOX (cutbox-rows.mjs): the forced cells as the released guide's own fill.sh prints them over the translation 0d821315ca0255a5… (all of the seat's roots in one cut). By AI agents, Wed Nov 11 2026. No macro, syntax, notation, axiom, sorry.
-/
import Derived.Test.YtdhoappjadnhcaaGreatChecked
import GoSem.Claim
import GoSem.ClaimJoined
import GoSem.ClaimMapViews
import Derived.JoinedTies
import Derived.KernelRfl
namespace Go.Proofs.YtdhoappjadnhcaaGreat
/- THE CELL 'sum', in the pinned program and in every row, IS THE sha256 OF THE DUMP (.gsa) THAT YtdhoappjadnhcaaGreatProg.lean LOADS. Nothing in Lean hashes anything: it is a label: what it is worth is what the hold of that sum in a sandbox is worth. -/
noncomputable def Tryz.pinned : Pinned := { name := "ytdhoappjadnhcaagreat", sum := "0d821315ca0255a56e3363db50e9ab3056db732731bb36f7778669970b3f22cc", checked := Tryz.checked }
namespace Rows
def none {H : Type} : Left H := { results := [], args := [] }

/-- 'laws.FnExactWake': WHATEVER THE INPUT: true; the input reads as it did. -/
def fnExactWakeSpec : ChangeSpec := { name := "fnExactWake", fn := fun _ => fun
  | [d1, d2, d3, d4, d5, d6] => { results := [.lit (.bool true)], args := [d1, d2, d3, d4, d5, d6] }
  | _ => none }
def fnExactWakeRow : OpenClaim := { program := "ytdhoappjadnhcaagreat", sum := "0d821315ca0255a56e3363db50e9ab3056db732731bb36f7778669970b3f22cc", func := "loop.example/g00679/laws.FnExactWake", spec := "fnExactWake", unfollowed := true, recurses := true, plainKeys := false, apart := false }
def FnExactWakeSaid : Prop := fnExactWakeRow.holds Tryz.pinned (OpenSpec.ofChange fnExactWakeSpec)

/-- ITS FALSE NEIGHBOUR: 'it returns false'. Refute it at one input. -/
def fnExactWakeWrong : ChangeSpec := { name := "fnExactWake", fn := fun _ => fun
  | [d1, d2, d3, d4, d5, d6] => { results := [.lit (.bool false)], args := [d1, d2, d3, d4, d5, d6] }
  | _ => none }
def FnExactWakeWrongFalsely : Prop := fnExactWakeRow.holds Tryz.pinned (OpenSpec.ofChange fnExactWakeWrong)

/-- 'laws.FnExactDoShared': WHATEVER THE INPUT: true; the input reads as it did. -/
def fnExactDoSharedSpec : ChangeSpec := { name := "fnExactDoShared", fn := fun _ => fun
  | [d1, d2, d3, d4] => { results := [.lit (.bool true)], args := [d1, d2, d3, d4] }
  | _ => none }
def fnExactDoSharedRow : OpenClaim := { program := "ytdhoappjadnhcaagreat", sum := "0d821315ca0255a56e3363db50e9ab3056db732731bb36f7778669970b3f22cc", func := "loop.example/g00679/laws.FnExactDoShared", spec := "fnExactDoShared", unfollowed := true, recurses := true, plainKeys := false, apart := false }
def FnExactDoSharedSaid : Prop := fnExactDoSharedRow.holds Tryz.pinned (OpenSpec.ofChange fnExactDoSharedSpec)

/-- ITS FALSE NEIGHBOUR: 'it returns false'. Refute it at one input. -/
def fnExactDoSharedWrong : ChangeSpec := { name := "fnExactDoShared", fn := fun _ => fun
  | [d1, d2, d3, d4] => { results := [.lit (.bool false)], args := [d1, d2, d3, d4] }
  | _ => none }
def FnExactDoSharedWrongFalsely : Prop := fnExactDoSharedRow.holds Tryz.pinned (OpenSpec.ofChange fnExactDoSharedWrong)

/-- 'laws.FnExactStep': WHATEVER THE INPUT: true; the input reads as it did. -/
def fnExactStepSpec : ChangeSpec := { name := "fnExactStep", fn := fun _ => fun
  | [d1, d2, d3] => { results := [.lit (.bool true)], args := [d1, d2, d3] }
  | _ => none }
def fnExactStepRow : OpenClaim := { program := "ytdhoappjadnhcaagreat", sum := "0d821315ca0255a56e3363db50e9ab3056db732731bb36f7778669970b3f22cc", func := "loop.example/g00679/laws.FnExactStep", spec := "fnExactStep", unfollowed := true, recurses := true, plainKeys := false, apart := false }
def FnExactStepSaid : Prop := fnExactStepRow.holds Tryz.pinned (OpenSpec.ofChange fnExactStepSpec)

/-- ITS FALSE NEIGHBOUR: 'it returns false'. Refute it at one input. -/
def fnExactStepWrong : ChangeSpec := { name := "fnExactStep", fn := fun _ => fun
  | [d1, d2, d3] => { results := [.lit (.bool false)], args := [d1, d2, d3] }
  | _ => none }
def FnExactStepWrongFalsely : Prop := fnExactStepRow.holds Tryz.pinned (OpenSpec.ofChange fnExactStepWrong)

/-- 'laws.FnExactDoEvent': WHATEVER THE INPUT: true; the input reads as it did. -/
def fnExactDoEventSpec : ChangeSpec := { name := "fnExactDoEvent", fn := fun _ => fun
  | [d1, d2, d3] => { results := [.lit (.bool true)], args := [d1, d2, d3] }
  | _ => none }
def fnExactDoEventRow : OpenClaim := { program := "ytdhoappjadnhcaagreat", sum := "0d821315ca0255a56e3363db50e9ab3056db732731bb36f7778669970b3f22cc", func := "loop.example/g00679/laws.FnExactDoEvent", spec := "fnExactDoEvent", unfollowed := true, recurses := true, plainKeys := false, apart := false }
def FnExactDoEventSaid : Prop := fnExactDoEventRow.holds Tryz.pinned (OpenSpec.ofChange fnExactDoEventSpec)

/-- ITS FALSE NEIGHBOUR: 'it returns false'. Refute it at one input. -/
def fnExactDoEventWrong : ChangeSpec := { name := "fnExactDoEvent", fn := fun _ => fun
  | [d1, d2, d3] => { results := [.lit (.bool false)], args := [d1, d2, d3] }
  | _ => none }
def FnExactDoEventWrongFalsely : Prop := fnExactDoEventRow.holds Tryz.pinned (OpenSpec.ofChange fnExactDoEventWrong)

/-- 'laws.FnExactSteps': WHATEVER THE INPUT: true; the input reads as it did. -/
def fnExactStepsSpec : ChangeSpec := { name := "fnExactSteps", fn := fun _ => fun
  | [d1, d2, d3] => { results := [.lit (.bool true)], args := [d1, d2, d3] }
  | _ => none }
def fnExactStepsRow : OpenClaim := { program := "ytdhoappjadnhcaagreat", sum := "0d821315ca0255a56e3363db50e9ab3056db732731bb36f7778669970b3f22cc", func := "loop.example/g00679/laws.FnExactSteps", spec := "fnExactSteps", unfollowed := true, recurses := true, plainKeys := false, apart := false }
def FnExactStepsSaid : Prop := fnExactStepsRow.holds Tryz.pinned (OpenSpec.ofChange fnExactStepsSpec)

/-- ITS FALSE NEIGHBOUR: 'it returns false'. Refute it at one input. -/
def fnExactStepsWrong : ChangeSpec := { name := "fnExactSteps", fn := fun _ => fun
  | [d1, d2, d3] => { results := [.lit (.bool false)], args := [d1, d2, d3] }
  | _ => none }
def FnExactStepsWrongFalsely : Prop := fnExactStepsRow.holds Tryz.pinned (OpenSpec.ofChange fnExactStepsWrong)

/- THE SECOND FORM. 'bulk': how many values and letters a reading holds, each counted each time it is reached (what is shared counts as often as it is met; a slice's spare places count too). A statement '..UptoSaid' is the law's where the arguments, and the package variables that the reading takes, are together of bulk at most 1048576: NARROWER than '..Said'. Prove '..Said' where nothing that the law and all that it calls make is longer than what came in: it says more and counts as full. Else prove '..UptoSaid'. A law counts once. -/
mutual
def uptoBulk {H : Type} : DataW H → Nat
  | .lit (.string bytes) => bytes.length + 1
  | .lit _ => 1
  | .nil => 1
  | .ptr d => uptoBulk d + 1
  | .slice elems spare => uptoBulkAll elems + uptoBulkAll spare + 1
  | .agg parts => uptoBulkAll parts + 1
  | .iface _ d => uptoBulk d + 1
  | .map entries => uptoBulkEntries entries + 1
  | .held _ => 1
def uptoBulkAll {H : Type} : List (DataW H) → Nat
  | [] => 0
  | d :: r => uptoBulk d + uptoBulkAll r
def uptoBulkEntries {H : Type} : List (Lit × DataW H) → Nat
  | [] => 0
  | x :: r => uptoBulkEntry x + uptoBulkEntries r
def uptoBulkEntry {H : Type} : Lit × DataW H → Nat
  | (.string bytes, d) => bytes.length + uptoBulk d + 1
  | (_, d) => uptoBulk d + 1
 end
def uptoSmall : (H : Type) → List (DataW H) → Bool := fun _ ds => decide (uptoBulkAll ds ≤ 1048576)
def OpenSpec.upto (s : _root_.Go.ChangeSpec) : _root_.Go.OpenSpec := { _root_.Go.OpenSpec.ofChange s with cond := some uptoSmall }

/-- 'laws.FnExactWake', WHERE WHAT IT READS IS OF BULK AT MOST 1048576: true; the input reads as it did. -/
def fnExactWakeUptoRow : OpenClaim := { program := "ytdhoappjadnhcaagreat", sum := "0d821315ca0255a56e3363db50e9ab3056db732731bb36f7778669970b3f22cc", func := "loop.example/g00679/laws.FnExactWake", spec := "fnExactWake", unfollowed := true, recurses := true, plainKeys := false, apart := false, narrowed := true }
def FnExactWakeUptoSaid : Prop := fnExactWakeUptoRow.holds Tryz.pinned (OpenSpec.upto fnExactWakeSpec)

/-- 'laws.FnExactDoShared', WHERE WHAT IT READS IS OF BULK AT MOST 1048576: true; the input reads as it did. -/
def fnExactDoSharedUptoRow : OpenClaim := { program := "ytdhoappjadnhcaagreat", sum := "0d821315ca0255a56e3363db50e9ab3056db732731bb36f7778669970b3f22cc", func := "loop.example/g00679/laws.FnExactDoShared", spec := "fnExactDoShared", unfollowed := true, recurses := true, plainKeys := false, apart := false, narrowed := true }
def FnExactDoSharedUptoSaid : Prop := fnExactDoSharedUptoRow.holds Tryz.pinned (OpenSpec.upto fnExactDoSharedSpec)

/-- 'laws.FnExactStep', WHERE WHAT IT READS IS OF BULK AT MOST 1048576: true; the input reads as it did. -/
def fnExactStepUptoRow : OpenClaim := { program := "ytdhoappjadnhcaagreat", sum := "0d821315ca0255a56e3363db50e9ab3056db732731bb36f7778669970b3f22cc", func := "loop.example/g00679/laws.FnExactStep", spec := "fnExactStep", unfollowed := true, recurses := true, plainKeys := false, apart := false, narrowed := true }
def FnExactStepUptoSaid : Prop := fnExactStepUptoRow.holds Tryz.pinned (OpenSpec.upto fnExactStepSpec)

/-- 'laws.FnExactDoEvent', WHERE WHAT IT READS IS OF BULK AT MOST 1048576: true; the input reads as it did. -/
def fnExactDoEventUptoRow : OpenClaim := { program := "ytdhoappjadnhcaagreat", sum := "0d821315ca0255a56e3363db50e9ab3056db732731bb36f7778669970b3f22cc", func := "loop.example/g00679/laws.FnExactDoEvent", spec := "fnExactDoEvent", unfollowed := true, recurses := true, plainKeys := false, apart := false, narrowed := true }
def FnExactDoEventUptoSaid : Prop := fnExactDoEventUptoRow.holds Tryz.pinned (OpenSpec.upto fnExactDoEventSpec)

/-- 'laws.FnExactSteps', WHERE WHAT IT READS IS OF BULK AT MOST 1048576: true; the input reads as it did. -/
def fnExactStepsUptoRow : OpenClaim := { program := "ytdhoappjadnhcaagreat", sum := "0d821315ca0255a56e3363db50e9ab3056db732731bb36f7778669970b3f22cc", func := "loop.example/g00679/laws.FnExactSteps", spec := "fnExactSteps", unfollowed := true, recurses := true, plainKeys := false, apart := false, narrowed := true }
def FnExactStepsUptoSaid : Prop := fnExactStepsUptoRow.holds Tryz.pinned (OpenSpec.upto fnExactStepsSpec)

end Rows
end Go.Proofs.YtdhoappjadnhcaaGreat
