import Derived.Test.YteeefpifkepbpaaEHSY3
import Derived.Test.YteeefpifkepbpaaEHS6
import Derived.Test.YteeefpifkepbpaaRows
import Derived.Test.YteeefpifkepbpaaEG3
/-
  My own texts (road H): HSY4.
-/
namespace HS
open Go Go.Proofs HK Go.RowKit
theorem own_FnEvents : ownKnob Try.prog.godebug = none := by kernel_rfl
set_option maxRecDepth 100000 in
theorem lifted_FnEvents (os : Os) (started : os.Started) (H : Type) (enc : TypeId × Value → H) :
    ReturnsInHanded {} Try.checked os 10 .any (Yteeefpifkepbpaa.Rows.fnEventsSpec.pre6 enc Try.prog Try.f10 Yteeefpifkepbpaa.Rows.fnEventsRow.domain false) (Yteeefpifkepbpaa.Rows.fnEventsSpec.post enc Try.prog Try.f10 false true false false) := by
  refine law (C := Try.checked) (ts := [22]) own_FnEvents started (by kernel_rfl) Try.func10
    (ChangeSpec.witness6 (enc := enc) (C := Try.checked) false ⟨#[], #[.slice none 0 0], []⟩ 8 (by kernel_rfl) (by kernel_rfl) (by kernel_rfl) (by kernel_rfl))
    (by kernel_rfl) (AReads.cons (rdByteS.oneV (by kernel_rfl)) AReads.nil) rfl (by kernel_rfl) (by kernel_rfl) ?_ (by kernel_rfl) Try.underlying4 (fun a h => law_events a.1 (fun x hx => byte_wf (h.1.1 x hx)))
  intro H ds hl
  match ds, hl with
  | [d0], _ => rfl
theorem over_FnEvents : Yteeefpifkepbpaa.Rows.fnEventsRow.holds Yteeefpifkepbpaa.Try.pinned (OpenSpec.ofChange Yteeefpifkepbpaa.Rows.fnEventsSpec) :=
  OpenClaim.holds_of_wide 10 Try.f10 rfl rfl rfl rfl rfl rfl rfl ⟨rfl, rfl, rfl, rfl, rfl⟩ rfl rfl rfl rfl rfl (by kernel_rfl) Try.func10 (by kernel_rfl)
    (of_decide_eq_true (by kernel_rfl)) (by unfold Func.isWrapper; first | (rw [if_pos (by decide +kernel)]; kernel_rfl) | (rw [if_neg (by decide +kernel)]; exact ⟨rfl, rfl⟩))
    (fun os started H enc _ => lifted_FnEvents os started H enc)
end HS
namespace Go.Proofs.Yteeefpifkepbpaa
theorem fnEvents_holds : Rows.FnEventsSaid := HS.over_FnEvents
end Go.Proofs.Yteeefpifkepbpaa
