/-
  My own text (road H): HSJ.
-/
import Derived.Test.YteeefpifkepbpaaHSI
import Derived.Test.YteeefpifkepbpaaHS6
import Derived.Test.YteeefpifkepbpaaRows
import Derived.Test.YteeefpifkepbpaaHB2
namespace HS
open Go Go.Proofs HK Go.RowKit
theorem own_FnExactEvents : ownKnob Try.prog.godebug = none := by kernel_rfl
set_option maxRecDepth 100000 in
theorem lifted_FnExactEvents (os : Os) (started : os.Started) (H : Type) (enc : TypeId × Value → H) :
    ReturnsInHanded {} Try.checked os 4 .any (Yteeefpifkepbpaa.Rows.fnExactEventsSpec.pre6 enc Try.prog Try.f4 Yteeefpifkepbpaa.Rows.fnExactEventsRow.domain false) (Yteeefpifkepbpaa.Rows.fnExactEventsSpec.post enc Try.prog Try.f4 false true false false) := by
  refine law (C := Try.checked) (ts := [33]) own_FnExactEvents started (by kernel_rfl) Try.func4
    (ChangeSpec.witness6 (enc := enc) (C := Try.checked) false ⟨#[], #[.slice none 0 0], []⟩ 8 (by kernel_rfl) (by kernel_rfl) (by kernel_rfl) (by kernel_rfl))
    (by kernel_rfl) (AReads.cons (rdDeedS.oneV (by kernel_rfl)) AReads.nil) rfl (by kernel_rfl) (by kernel_rfl) ?_ (by kernel_rfl) Try.underlying4 (fun a h => law_events a.1 h.1 (evs_le _))
  intro H ds hl
  match ds, hl with
  | [d0], _ => rfl
theorem over_FnExactEvents : Yteeefpifkepbpaa.Rows.fnExactEventsRow.holds Yteeefpifkepbpaa.Try.pinned (OpenSpec.ofChange Yteeefpifkepbpaa.Rows.fnExactEventsSpec) :=
  OpenClaim.holds_of_wide 4 Try.f4 rfl rfl rfl rfl rfl rfl rfl ⟨rfl, rfl, rfl, rfl, rfl⟩ rfl rfl rfl rfl rfl (by kernel_rfl) Try.func4 (by kernel_rfl)
    (of_decide_eq_true (by kernel_rfl)) (by unfold Func.isWrapper; first | (rw [if_pos (by decide +kernel)]; kernel_rfl) | (rw [if_neg (by decide +kernel)]; exact ⟨rfl, rfl⟩))
    (fun os started H enc _ => lifted_FnExactEvents os started H enc)

end HS
namespace Go.Proofs.Yteeefpifkepbpaa
/-- The law, for every input. -/
theorem events_holds : Rows.FnExactEventsSaid := HS.over_FnExactEvents
end Go.Proofs.Yteeefpifkepbpaa
