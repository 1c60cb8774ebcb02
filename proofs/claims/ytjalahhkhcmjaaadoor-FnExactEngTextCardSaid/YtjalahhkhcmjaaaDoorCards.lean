/-
  DERIVED. GIVEN WITH THE SEED: THE CARDS: each row of YtjalahhkhcmjaaaDoorRows.lean that lists a variable, with what it lists TIED to the program's text (the seventh form; the later family's looks); each row that meets fmt, with fmt's text TOLD by the authors' own Lean function (tested against real Go, not proved from fmt's source: count such statements apart). THE CARD IS WHAT COUNTS. Prove the row's statement (the work); the ties are given (YtjalahhkhcmjaaaDoorTie.lean); close each card by the builder's one call (the guide's Derived/Test/ToyasCard.lean, 'card_holds'). Laid BY PROGRAM, IN A SANDBOX (cutbox-door.mjs). By AI agents, Wed Nov 11 2026. No macro, syntax, notation, axiom, sorry.
-/
import Derived.Test.YtjalahhkhcmjaaaDoorRows
import GoSem.ClaimSeven
namespace Go.Proofs.YtjalahhkhcmjaaaDoor
namespace Rows

/-- THE TIED CARD OF 'laws.FnExactEngText'. -/
def fnExactEngTextCard : Claim7 := { stood := { row := fnExactEngTextRow, standIns := [], harness := (true, "f35bb31836d9b43ca4de4d0e749c3d9d2614ce0fd605d289e214d4e7ef136c64"), looks := false }, kinds := [], alts := [], laidByText := true, laidKinds := [.listed, .data], laidTests := true, laidLooks := .later }
def FnExactEngTextCardSaid : Prop := Claim7.holds Tryd.pinned (.plain (OpenSpec.ofChange fnExactEngTextSpec)) fnExactEngTextCard

/-- THE SECOND FORM's CARD OF 'laws.FnExactEngText'. -/
def fnExactEngTextUptoCard : Claim7 := { stood := { row := fnExactEngTextUptoRow, standIns := [], harness := (true, "f35bb31836d9b43ca4de4d0e749c3d9d2614ce0fd605d289e214d4e7ef136c64"), looks := false }, kinds := [], alts := [], laidByText := true, laidKinds := [.listed, .data], laidTests := true, laidLooks := .later }
def FnExactEngTextUptoCardSaid : Prop := Claim7.holds Tryd.pinned (.plain (OpenSpec.upto fnExactEngTextSpec)) fnExactEngTextUptoCard
end Rows
end Go.Proofs.YtjalahhkhcmjaaaDoor
